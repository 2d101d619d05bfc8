/- What each of these functions computes, for every argument that its theorem names; a part of what the proof of NotePacks stands on. -/
import Derived.Test.YtkdoomglflikkaaGreatQac
import Derived.Test.YtkdoomglflikkaaGreatQad
import Derived.Test.YtkdoomglflikkaaGreatQae
import Derived.Test.YtkdoomglflikkaaGreatQag
import Derived.Test.YtkdoomglflikkaaGreatQah
import Derived.Test.YtkdoomglflikkaaGreatQaj
import Derived.Test.YtkdoomglflikkaaGreatQak
import Derived.Test.YtkdoomglflikkaaGreatQan
import Derived.Test.YtkdoomglflikkaaGreatQao
import Derived.Test.YtkdoomglflikkaaGreatQap
namespace Go.Proofs.YtkdoomglflikkaaGreat
open Go.RowKit Go.Eng Go.Eng _root_.Go.Proofs.Tryz
set_option maxRecDepth 100000
variable {w0 w : World} {M0 Fz : Nat → Prop} {H : List It} {A : Option Addr} {c : Nat}
theorem noteR_el {S : Nat → Prop} {l : List Nte} (h : GS noteR S w A c l) (i : Nat) (hi : i < l.length) : ∃ a A0 c0 A1 c1 A2 c2 A3 c3 A4 c4 A5 c5 A6 c6 A7 c7 A8 c8 A9 c9 A10 c10, A = some a ∧ AtF S w (a.add (i * 58)) ([.int .i64 (l.getD i note0).kind, .int .i64 (l.getD i note0).from_, .int .i64 (l.getD i note0).group, .int .i64 (l.getD i note0).epoch, .int .i64 (l.getD i note0).view, .int .i64 (l.getD i note0).seq] ++ (digC (l.getD i note0).dig ++ ([.slice A0 (l.getD i note0).batch.length c0, .int .i64 (l.getD i note0).ans.err, .slice A1 (l.getD i note0).ans.data.length c1, .int .i64 (l.getD i note0).ans.epoch, .slice A2 (l.getD i note0).ans.nodes.length c2, .int .i64 (l.getD i note0).stamp, .int .i64 (l.getD i note0).node, .int .i64 (l.getD i note0).change.node, .int .i64 (l.getD i note0).change.view, .int .i64 (l.getD i note0).change.low, .slice A3 (l.getD i note0).change.marks.length c3, .slice A4 (l.getD i note0).change.p.length c4, .slice A5 (l.getD i note0).change.q.length c5, .slice A6 (l.getD i note0).changes.length c6, .slice A7 (l.getD i note0).picks.length c7, .int .i64 (l.getD i note0).level, .int .i64 (l.getD i note0).place, .slice A8 (l.getD i note0).digs.length c8, .slice A9 (l.getD i note0).data.length c9, .slice A10 (l.getD i note0).nodes.length c10]))) ∧ NteI (l.getD i note0) ∧ GS wishR S w A0 c0 (l.getD i note0).batch ∧ GS byteR S w A1 c1 (l.getD i note0).ans.data ∧ GS intR S w A2 c2 (l.getD i note0).ans.nodes ∧ GS markR S w A3 c3 (l.getD i note0).change.marks ∧ GS standR S w A4 c4 (l.getD i note0).change.p ∧ GS standR S w A5 c5 (l.getD i note0).change.q ∧ GS changeR S w A6 c6 (l.getD i note0).changes ∧ GS pickR S w A7 c7 (l.getD i note0).picks ∧ GS digR S w A8 c8 (l.getD i note0).digs ∧ GS byteR S w A9 c9 (l.getD i note0).data ∧ GS intR S w A10 c10 (l.getD i note0).nodes := by
 obtain ⟨a, cs, h1, h2, hI, A0, c0, A1, c1, A2, c2, A3, c3, A4, c4, A5, c5, A6, c6, A7, c7, A8, c8, A9, c9, A10, c10, rfl, k0, k1, k2, k3, k4, k5, k6, k7, k8, k9, k10⟩ := GS.el h i hi
 have e : (l.getD i note0) = l[i] := by rw [List.getD_eq_getElem?_getD, List.getElem?_eq_getElem hi]; rfl
 rw [e]
 exact ⟨a, _, _, _, _, _, _, _, _, _, _, _, _, _, _, _, _, _, _, _, _, _, _, h1, h2, hI, k0, k1, k2, k3, k4, k5, k6, k7, k8, k9, k10⟩
set_option maxHeartbeats 40000000 in
theorem nSameChange_ok {csa : List Value} {a : Chn} {Sa : Nat → Prop} {csb : List Value} {b : Chn} {Sb : Nat → Prop} (ha : changeR.rd Sa w csa a) (hb : changeR.rd Sb w csb b) : Ret prog 71 #[.agg csa.toArray, .agg csb.toArray] w (fun v w' => v = .bool (decide (a = b)) ∧ Ext w w') := by
 obtain ⟨hIa, Aa0, ca0, Aa1, ca1, Aa2, ca2, rfl, ha0, ha1, ha2⟩ := ha
 obtain ⟨hIb, Ab0, cb0, Ab1, cb1, Ab2, cb2, rfl, hb0, hb1, hb2⟩ := hb
 refine ret_of_wk func71 rfl ntmps71 leB_ ?_
 have hp:=HP.begin_ w
 refine so ?_
 refine Bx hp (h := fun gs2 w1 hp hE1 => ?_)
 refine Bx hp (h := fun gs3 w2 hp hE2 => so ?_)
 refine Gs 10 ?_ ?_<;>intro hg1<;>refine so ?_
 refine Gs 17 ?_ ?_<;>intro hg2<;>refine so ?_
 refine Gs 24 ?_ ?_<;>intro hg3<;>refine so ?_
 refine Cx hp (seqM_ok ha0.tn hb0.tn) fun w3 hp hE3 => so ?_
 refine Gs 31 ?_ ?_<;>intro hg4<;>refine so ?_
 refine Cx hp (seqS_ok ha1.tn hb1.tn) fun w4 hp hE4 => so ?_
 refine Gs 38 ?_ ?_<;>intro hg5<;>refine so ?_
 refine Cx hp (seqS_ok ha2.tn hb2.tn) fun w5 hp hE5 => so ?_
 refine Pt ?_
 exact ⟨_, rfl, congrArg Value.bool (decide_eq_decide.2 (by rw [Chn_eq]; simp_all)), hp.chg⟩
 refine Pt ?_
 exact ⟨_, rfl, bool_f (by rw [Chn_eq]; simp_all), hp.chg⟩
 refine Pt ?_
 exact ⟨_, rfl, bool_f (by rw [Chn_eq]; simp_all), hp.chg⟩
 refine Pt ?_
 exact ⟨_, rfl, bool_f (by rw [Chn_eq]; simp_all), hp.chg⟩
 refine Pt ?_
 exact ⟨_, rfl, bool_f (by rw [Chn_eq]; simp_all), hp.chg⟩
 refine Pt ?_
 exact ⟨_, rfl, bool_f (by rw [Chn_eq]; simp_all), hp.chg⟩
set_option maxHeartbeats 4000000 in
theorem fWCon_ok {Al : Option Addr} {cl : Nat} {l : List Wsh} {Sl : Nat → Prop} {fid : Nat} {first cap : List Value} {p0 : Wsh → Prop} [DecidablePred p0] {w : World} (hl : GS wishR Sl w Al cl l) (hcl0 : callable Tryz.prog fid = true) (hf : ∀ w1 cs x, Ext w w1 → wishR.rd Sl w1 cs x → Ret Tryz.prog fid (first ++ [Value.agg cs.toArray] ++ cap).toArray w1 fun v w2 => v = Value.bool (decide (p0 x)) ∧ Ext w1 w2) : Ret Tryz.prog 134 #[.slice Al l.length cl, .func (.func fid) first.toArray cap.toArray] w (fun v w' => v = .bool (decide (∃ x ∈ l, p0 x)) ∧ Ext w w') := by
 have mhl := hl.mx
 refine ret_of_wk Tryz.func134 rfl Tryz.ntmps134 (Nat.le_of_ble_eq_true rfl) ?_
 have hEc : Ext w w := Chg.refl _ _
 refine wc_seq ?_
 refine wc_region ?_
 refine wl_assign (by decide) rfl ?_
 refine wl_nil ?_
 refine wk_norm ?_
 refine wc_seq ?_
 refine wc_region ?_
 refine wl_move (by decide) rfl ?_
 refine wl_move (by decide) rfl ?_
 have hcl := fWIdx_ok hl hcl0 hf
 refine wl_call (by decide) Tryz.cl151 rfl hcl ?_
 clear hcl
 rintro _ w7 ⟨r, rfl, hr, hE7⟩
 replace hl := hl.ext hE7
 replace hEc := hEc.trans hE7
 refine wl_geq (by decide) rfl rfl ?_
 refine wl_assign (by decide) rfl ?_
 refine wl_nil ?_
 refine wk_norm ?_
 refine wc_ret ?_
 refine wk_post1 (.inl rfl) Tryz.results134 rfl ?_
 exact ⟨_, rfl, congrArg Value.bool (decide_eq_decide.2 hr), hEc⟩
set_option maxHeartbeats 40000000 in
theorem batchMay1_ok {csw0 : List Value} {w0 : Wsh} {Sw0 : Nat → Prop} {pn : Addr} {csn : List Value} {n : Nte} {Sn Pn : Nat → Prop} (hw0 : wishR.rd Sw0 w csw0 w0) (hatn : AtF Pn w pn csn) (hn : noteR.rd Sn w csn n) : Ret prog 135 #[.agg csw0.toArray, .pointer (some pn)] w (fun v w' => v = .bool (decide (¬ BM n.group n.epoch w0)) ∧ Ext w w') := by
 obtain ⟨hIw0, Aw00, cw00, Aw01, cw01, rfl, hw00, hw01⟩ := hw0
 obtain ⟨hIn, An0, cn0, An1, cn1, An2, cn2, An3, cn3, An4, cn4, An5, cn5, An6, cn6, An7, cn7, An8, cn8, An9, cn9, An10, cn10, rfl, hn0, hn1, hn2, hn3, hn4, hn5, hn6, hn7, hn8, hn9, hn10⟩ := hn
 have mhw00:=hw00.mx
 have mhw01:=hw01.mx
 have mhn0:=hn0.mx
 have mhn1:=hn1.mx
 have mhn2:=hn2.mx
 have mhn3:=hn3.mx
 have mhn4:=hn4.mx
 have mhn5:=hn5.mx
 have mhn6:=hn6.mx
 have mhn7:=hn7.mx
 have mhn8:=hn8.mx
 have mhn9:=hn9.mx
 have mhn10:=hn10.mx
 refine ret_of_wk func135 rfl ntmps135 leB_ ?_
 have hp:=HP.begin_ w
 replace hw00:=hw00.now
 replace hw01:=hw01.now
 replace hatn:=hatn.now
 refine go ?_
 refine wl_hbox (by decide) rfl hp ?_
 rintro gs2 w1 hp1 hE1
 have q0:=hE1
 replace hp:=hp1
 replace hp:=hp.ay (itB gs2 68 ([iv w0.client, iv w0.stamp, iv w0.group, iv w0.epoch, iv w0.kind, iv w0.block, .slice Aw00 w0.data.length cw00, iv w0.old, iv w0.new, .slice Aw01 w0.next.length cw01]) :: _)
 refine go ?_
 refine Hx_ ([iv w0.client, iv w0.stamp, iv w0.group, iv w0.epoch, iv w0.kind, iv w0.block, .slice Aw00 w0.data.length cw00, iv w0.old, iv w0.new, .slice Aw01 w0.next.length cw01]) 0 ag68 rfl hp rfl rfl rfl ?_
 have hcl:=wCheck_ok ⟨hIw0, _, _, _, _, rfl, (hw00.ext q0), (hw01.ext q0)⟩
 refine Cl_ cl136 rfl hcl ?_
 clear hcl
 rintro _ w2 ⟨rfl, hE2⟩
 replace q0:=q0.trans hE2
 replace hp:=hp.ext hE2
 refine Ne_ rfl rfl (go ?_)
 refine Gs 7 (fun hg1 => ?_) fun hg1 => ?_
 refine go ?_
 refine P1 results135 ?_
 exact ⟨_, rfl, bool_t (by unfold BM; simp_all; try omega), hp.chg⟩
 refine go ?_
 refine Fd_ 2 fld68_2 rfl rfl (go ?_)
 refine Hl_ 0 sc3 rfl hp rfl rfl (go ?_)
 refine Fe_ fld38_2 rfl (go ?_)
 refine Ld_ sc3 rfl ((hatn.ext q0).get rfl) (go ?_)
 refine Ne_ rfl rfl (go ?_)
 refine Gs 14 (fun hg2 => ?_) fun hg2 => ?_
 refine go ?_
 refine P1 results135 ?_
 exact ⟨_, rfl, bool_t (by unfold BM; simp_all; try omega), hp.chg⟩
 refine go ?_
 refine Fd_ 3 fld68_3 rfl rfl (go ?_)
 refine Hl_ 0 sc3 rfl hp rfl rfl (go ?_)
 refine Fe_ fld38_3 rfl (go ?_)
 refine Ld_ sc3 rfl ((hatn.ext q0).get rfl) (go ?_)
 refine Ne_ rfl rfl (go ?_)
 refine P1 results135 ?_
 exact ⟨_, rfl, congrArg Value.bool (decide_eq_decide.2 (by unfold BM; simp_all; try omega)), hp.chg⟩
set_option maxHeartbeats 40000000 in
theorem gListM_ok {gw : Nat} {out : List UInt8} {pa : Addr} {B : Option Addr} {d : Nat} {l : List Mrk} {E : Mrk → List UInt8} {ok : Mrk → Prop} {FV : Value} {most : Int} (hp : HP w0 M0 Fz w (itB gw 89 [.slice A out.length c] :: itR 5 1 A out.length c (out.map bv) :: H)) (hat : AtF Fz w pa [.slice B l.length d]) (hl : GS markR Fz w B d l) (hok : ∀ x ∈ l, ok x) (hE : EachW prog 5 89 gw w0 M0 Fz w markR E ok FV) (hnl : isNum (l.length : Int)) (hlen : out.length + (listE E l).length ≤ 1000000) : Ret prog 95 #[.iface 87 (.pointer (some ⟨gw, 0, none⟩)), .pointer (some pa), .int .i64 most, FV] w (WrP 5 89 gw w0 M0 Fz w H (out ++ listE E l)) := by
 have hnl2:=hnl
 unfold isNum at hnl2
 refine ret_of_wk func95 rfl ntmps95 leB_ ?_
 refine so ?_
 refine wP 9 hp (h := fun wD hp hED => ?_)
 refine Ci rfl (gMany_ok (v9 := iv most) hp hnl (by simp only [listE, List.length_append] at hlen ⊢; omega)) ?_
 rintro _ w1 ⟨rfl, A1, c1, hp, hF1⟩
 refine so ?_
 refine Lp [1, 3, 21, 22] (fun L' w' mes => ∃ (k : Nat), ∃ (A2 : Option Addr), ∃ (c2 : Nat), L' = [(1, .pointer (some pa)), (3, FV), (21, iv (l.length : Int)), (22, iv (k : Int))] ∧ (k ≤ l.length) ∧ (Frz Fz Fz w w') ∧ (AtF Fz w' pa [.slice B l.length d]) ∧ (GS markR Fz w' B d l) ∧ (HP w0 M0 Fz w' (itB gw 89 [.slice A2 (out ++ numE (l.length : Int) ++ flatE E (l.take k)).length c2] :: itR 5 1 A2 (out ++ numE (l.length : Int) ++ flatE E (l.take k)).length c2 ((out ++ numE (l.length : Int) ++ flatE E (l.take k)).map bv) :: H)) ∧ l.length - k = mes) (l.length - 0) (by
     refine ⟨0, A1, c1, rfl, Nat.zero_le _, mv, hat.to, hl.to, ?_, rfl⟩
     simp only [List.take_zero, flatE_nil, List.append_nil]; exact hp) ?_
 rintro _ wr _ ⟨k, A2, c2, rfl, hk, hFr, hat, hl, hp, rfl⟩ KL1 hKL1
 refine so ?_
 refine Cd ?_ ?_<;>intro hc1
 have hk9 : k < l.length := by omega
 refine so ?_
 refine aF (so ?_)
 obtain ⟨ax, csx, hax, hatx, hrdx⟩ := hl.el k hk9
 refine wl_idx0 (size := 33) (by decide) sl30 rfl rfl hax k rfl hk9 ?_
 have hcl:=hE _ _ _ _ _ _ _ _ hFr hp hatx hrdx (hok _ (List.getElem_mem hk9)) (flat_room (_out := l) hk9 hlen)
 refine wl_callF (vs := [.pointer (some (ax.add (k * 33)))]) (by decide) rfl rfl (fun _ h => by cases h) hcl ?_
 clear hcl
 rintro _ w9 ⟨A9, c9, hp, hF9⟩
 refine so ?_
 refine Kl [1, 3, 21, 22] hKL1 (l.length - (k + 1)) ⟨(k + 1), A9, c9, rfl, by omega, mv, hat.to, hl.to, ?_, rfl⟩ (by omega)
 rw [flat_take E l k hk9, ← List.append_assoc]; exact hp
 refine so ?_
 refine wk_post0 (.inr rfl) results95  ?_
 have hkl : k = l.length := by omega
 rw [hkl, List.take_length, List.append_assoc] at hp
 exact ⟨_, rfl, _, _, hp, hFr⟩
set_option maxHeartbeats 40000000 in
theorem gListD_ok {gw : Nat} {out : List UInt8} {pa : Addr} {B : Option Addr} {d : Nat} {l : List Dig} {E : Dig → List UInt8} {ok : Dig → Prop} {FV : Value} {most : Int} (hp : HP w0 M0 Fz w (itB gw 89 [.slice A out.length c] :: itR 5 1 A out.length c (out.map bv) :: H)) (hat : AtF Fz w pa [.slice B l.length d]) (hl : GS digR Fz w B d l) (hok : ∀ x ∈ l, ok x) (hE : EachW prog 5 89 gw w0 M0 Fz w digR E ok FV) (hnl : isNum (l.length : Int)) (hlen : out.length + (listE E l).length ≤ 1000000) : Ret prog 113 #[.iface 87 (.pointer (some ⟨gw, 0, none⟩)), .pointer (some pa), .int .i64 most, FV] w (WrP 5 89 gw w0 M0 Fz w H (out ++ listE E l)) := by
 have hnl2:=hnl
 unfold isNum at hnl2
 refine ret_of_wk func113 rfl ntmps113 leB_ ?_
 refine so ?_
 refine wP 9 hp (h := fun wD hp hED => ?_)
 refine Ci rfl (gMany_ok (v9 := iv most) hp hnl (by simp only [listE, List.length_append] at hlen ⊢; omega)) ?_
 rintro _ w1 ⟨rfl, A1, c1, hp, hF1⟩
 refine so ?_
 refine Lp [1, 3, 21, 22] (fun L' w' mes => ∃ (k : Nat), ∃ (A2 : Option Addr), ∃ (c2 : Nat), L' = [(1, .pointer (some pa)), (3, FV), (21, iv (l.length : Int)), (22, iv (k : Int))] ∧ (k ≤ l.length) ∧ (Frz Fz Fz w w') ∧ (AtF Fz w' pa [.slice B l.length d]) ∧ (GS digR Fz w' B d l) ∧ (HP w0 M0 Fz w' (itB gw 89 [.slice A2 (out ++ numE (l.length : Int) ++ flatE E (l.take k)).length c2] :: itR 5 1 A2 (out ++ numE (l.length : Int) ++ flatE E (l.take k)).length c2 ((out ++ numE (l.length : Int) ++ flatE E (l.take k)).map bv) :: H)) ∧ l.length - k = mes) (l.length - 0) (by
     refine ⟨0, A1, c1, rfl, Nat.zero_le _, mv, hat.to, hl.to, ?_, rfl⟩
     simp only [List.take_zero, flatE_nil, List.append_nil]; exact hp) ?_
 rintro _ wr _ ⟨k, A2, c2, rfl, hk, hFr, hat, hl, hp, rfl⟩ KL1 hKL1
 refine so ?_
 refine Cd ?_ ?_<;>intro hc1
 have hk9 : k < l.length := by omega
 refine so ?_
 refine aF (so ?_)
 obtain ⟨ax, csx, hax, hatx, hrdx⟩ := hl.el k hk9
 refine wl_idx0 (size := 32) (by decide) sl36 rfl rfl hax k rfl hk9 ?_
 have hcl:=hE _ _ _ _ _ _ _ _ hFr hp hatx hrdx (hok _ (List.getElem_mem hk9)) (flat_room (_out := l) hk9 hlen)
 refine wl_callF (vs := [.pointer (some (ax.add (k * 32)))]) (by decide) rfl rfl (fun _ h => by cases h) hcl ?_
 clear hcl
 rintro _ w9 ⟨A9, c9, hp, hF9⟩
 refine so ?_
 refine Kl [1, 3, 21, 22] hKL1 (l.length - (k + 1)) ⟨(k + 1), A9, c9, rfl, by omega, mv, hat.to, hl.to, ?_, rfl⟩ (by omega)
 rw [flat_take E l k hk9, ← List.append_assoc]; exact hp
 refine so ?_
 refine wk_post0 (.inr rfl) results113  ?_
 have hkl : k = l.length := by omega
 rw [hkl, List.take_length, List.append_assoc] at hp
 exact ⟨_, rfl, _, _, hp, hFr⟩
theorem rstr_is {A : Option Addr} {c : Nat} {b : List UInt8} {Sa : Nat → Prop} {w : World} (h : BS Sa w A c b) (hb : b.length ≤ 65536) : Ret Tryz.prog 76 #[.slice A b.length c] w (fun v w' => ∃ A c, v = .tuple #[.slice A (strE b).length c, .int .i64 0] ∧ OwnB 5 w.heap.size w' A c (strE b) ∧ Ext w w') := by
 have h := rstr_ok h
 rw [str_good hb] at h
 exact h
set_option maxHeartbeats 40000000 in
theorem qNum_ok {out : List UInt8} {n : Int} (hp : HP w0 M0 Fz w (itR 5 1 A out.length c (out.map bv) :: H)) (hn : isNum n) (hlen : out.length + (numE n).length ≤ 1000000) : Ret prog 42 #[.slice A out.length c, .int .i64 n] w (RwP 5 w0 M0 Fz w H (out ++ numE n)) := by
 have hFr:=Frz.start Fz w
 have hn0:=hn
 unfold isNum at hn0
 refine ret_of_wk func42 rfl ntmps42 leB_ ?_
 refine go ?_
 refine Cl_ cl74 rfl (rnum_is (n := n) hn) ?_
 rintro _ w1 ⟨A1, c1, rfl, ho1, hE1⟩
 replace hFr:=hFr.ext hE1
 replace hp:=hp.ext hE1
 refine go ?_
 refine wl_happendB (i := 0) (l2 := (numE n)) (by decide) sl26 rfl rfl hp rfl ho1.bs (by omega) ?_
 rintro A2 c2 w2 hp2 hC2
 replace hFr:=hFr.fz hC2
 replace hp:=(hp2.ay (itR 5 1 A2 ((out ++ (numE n))).length c2 (((out ++ (numE n))).map bv) :: H))
 refine go ?_
 refine P1 results42 ?_
 exact ⟨_, rfl, _, _, rfl, hp.less hFr.sub, hFr.chg, fun _ h => h⟩
set_option maxHeartbeats 40000000 in
theorem rListM_ok {gr : Nat} {l : List UInt8} {bad : Bool} {X : List Value → It} {pX : Addr} {most : Int} {p : PR Mrk} {FV : Value} (hp : HP w0 M0 Fz w (itB gr 103 [.slice A l.length c, .bool bad] :: X ([.slice none 0 0]) :: H)) (hS : Slot X pX 1) (hl : GS byteR Fz w A c l) (hE : EachR prog 103 gr w0 M0 Fz w markR ([Value.int .i64 0] ++ (digC dig0)) p FV) (hm : most ≤ 100) : Ret prog 95 #[.iface 101 (.pointer (some ⟨gr, 0, none⟩)), .pointer (some pX), .int .i64 most, FV] w (RdP 103 gr w0 M0 Fz w H X (sliceR markR) (listP p most) bad l) := by
 refine ret_of_wk func95 rfl ntmps95 leB_ ?_
 refine so ?_
 refine wdP 9 hp (fun wD hp hED => by refine pm ?_; exact .op rfl (Ld_ sc30 rfl (hp.slotAt (i := 1) hS rfl rfl).head (wl_nil qp)) pl) fun wD hp hED => ?_
 refine Ci rfl (nMany_ok (m0 := 0) (most := most) hp hl.to) ?_
 rintro _ w1 ⟨F1, A1, c1, l1, b1, x1, rfl, hp, hF1, hl1, hst1, hz1⟩
 have hML : ∀ q : Int, 0 ≤ q → q < x1 → x1 ≤ most := by
   intro q h0 h1
   cases hq : b1 with
   | false => exact (many_lim hst1 hq).2
   | true => have := hz1 hq; omega
 refine so ?_
 refine Lp [1, 3, 21, 22] (fun L' w' mes => ∃ (k : Nat), ∃ (F1 : Nat → Prop), ∃ (A2 : Option Addr), ∃ (c2 : Nat), ∃ (l2 : List UInt8), ∃ (b2 : Bool), ∃ (AL : Option Addr), ∃ (cL : Nat), ∃ (xs : List Mrk), ∃ (rows : List (List Value)), L' = [(1, .pointer (some pX)), (3, FV), (21, iv x1), (22, iv (k : Int))] ∧ (k ≤ x1.toNat) ∧ (xs.length = k) ∧ (RF markR F1 w' rows xs) ∧ (Frz Fz F1 w w') ∧ (GS byteR F1 w' A2 c2 l2) ∧ (StepP (repP p k) (rst b1 l1) (rst b2 l2) xs) ∧ (HP w0 M0 F1 w' (itB gr 103 [.slice A2 l2.length c2, .bool b2] :: X ([.slice AL xs.length cL]) :: itR 95 33 AL xs.length cL rows.flatten :: H)) ∧ x1.toNat - k = mes) (x1.toNat - 0) (by
     refine ⟨0, F1, A1, c1, l1, b1, none, 0, [], [], rfl, Nat.zero_le _, ?_, RF.nil _ _ _, mv, hl1, StepP.pure _ _, ((hp.noRow 95 33).as_ (H' := _ :: _ :: _ :: _) rfl).rot3, rfl⟩
     rfl) ?_
 rintro _ wr _ ⟨k, F1, A2, c2, l2, b2, AL, cL, xs, rows, rfl, hk, hxk, hRF, hFr, hl2, hstL, hp, rfl⟩ KL1 hKL1
 refine so ?_
 refine Cd ?_ ?_<;>intro hc1
 have hx9:=hML k (by omega) (by omega)
 refine so ?_
 refine Ld_ sc30 rfl (hp.slotAt (i := 1) hS rfl rfl).head (so ?_)
 refine aT (so ?_)
 refine Alo hp (h := fun gs10 w2 hp hE2 => ?_)
 replace hp:=hp.ay (itB gs10 95 ([iv mark0.seq] ++ (digC mark0.dig)) :: _)
 refine so ?_
 obtain ⟨KM, ⟨hRo, hRk⟩, hKF, hKlt, hpo, hup⟩ := hp.apart (i := 3) rfl
 apply wc_drawTM 7 6 KM [.eq _,.eq _,.eq _,.eq _,.eq _,SP.tmpR _ 95 33 1 ([Value.int .i64 0] ++ (digC dig0)),SP.turn KM _ 95 33 (xs.length + 1) (rows.flatten ++ ([Value.int .i64 0] ++ (digC dig0)))] (by kernel_rfl) (by kernel_rfl) ⟨.inr (fun _ _ _ _ h => h),.inr (fun _ _ _ _ h => h),.inr (fun _ _ _ _ h => h),.inr (fun _ _ _ _ h => h),.inr (fun _ _ _ _ h => h),.inr (SP.tmpR_st hKlt),.inl rfl,trivial⟩
 refine ⟨?_,?_,?_,?_,?_,?_,?_,trivial⟩<;>intro F wF hER hEE hk
 exact dm (hk.qi 1)
 exact dm (hk.qi 1)
 exact Nc_ (hk.qe 1) qz
 exact Ld_ sc30 (hk.qe 2) ((hpo _ hER).slotAt (i := 2) hS rfl rfl).head qz
 exact Hx_ ([iv mark0.seq] ++ (digC mark0.dig)) 0 ag95 (hk.qi 10) (hpo _ hER) rfl rfl rfl qz
 have e35:=hk.qe 4
 refine wl_bslice (size := 33) (xs := [.tmp 35]) (vs := [.agg ([Value.int .i64 0] ++ (digC dig0)).toArray]) (by decide) sl30 rfl (by simp only [evs, ev, e35]; first | done | rfl) rfl (by intro v hv; rw [List.mem_singleton.1 hv]; rfl) leB_ 0 (Nat.zero_le _) ?_
 rintro gt wt hgt hot hEt
 exact qz ⟨hEt, gt, rfl, by rw [hgt]; exact hER.size, hot⟩
 have hEx:=hEE rfl
 have e34:=hk.qe 3
 obtain ⟨u36, e36, h36⟩:=hk.qp 5
 obtain ⟨gt, rfl, hgt0, hot⟩ := h36
 refine wl_append (size := 33) (m := 1) (news := [Value.int .i64 0] ++ (digC dig0)) (by decide) sl30 e34 e36 (hRo.ext hEx) rfl (fun b hb => by cases hb; exact hot.at0) (by simp) (List.all_eq_true.1 rfl) (by omega) (Nat.zero_le _) ?_
 rintro A3 c3 w3 ho3 hch3 h43
 exact qz ⟨hch3.weak (fun b _ x => (hRk b).2 ⟨x.1, x.2.2⟩), A3, c3, rfl, ho3, fun b hb => (by
     rcases h43 with ⟨rfl, rfl⟩ | rfl
     · exact .inl ((hRk b).2 hb)
     · obtain ⟨_, a, ha, rfl⟩ := hb
       cases ha
       exact .inr hEx.size)⟩
 intro F wD hED hini hdo
 have e1:=di hini 1
 have e3:=di hini 3
 have e9:=di hini 9
 have e21:=di hini 21
 have e22:=di hini 22
 have e31:=dr hdo 0
 obtain ⟨u37, e37, h37⟩ := hdo 6 37 (Nat.lt_of_lt_of_eq (by decide) rfl) rfl
 obtain ⟨A3, c3, rfl, ho3, hK3⟩ := h37
 refine wl_drop [(1, _), (3, _), (9, _), (21, _), (22, _), (31, _), (37, _)] ⟨e1, e3, e9, e21, e22, e31, e37, trivial⟩ ?_
 clear e1 e3 e9 e21 e22 e31 e37 hini hdo
 have hcz:=hED.zz hKF
 replace hp:=hup _ (itR 95 33 A3 (xs.length + 1) c3 (rows.flatten ++ ([Value.int .i64 0] ++ (digC dig0)))) (fun b => c3 ≠ 0 ∧ blk A3 b) hED ⟨ho3, fun _ => Iff.rfl⟩ hK3
 refine so ?_
 refine wl_sstore1 0 (i := 2) hS (by rw [add_zero']; rfl) rfl hp rfl rfl sz30 (by decide) rfl ?_
 rintro w3 hp hC3
 refine so ?_
 refine Ld_ sc30 rfl (hp.slotAt (i := 2) hS rfl rfl).head (so ?_)
 have hOR:=hp.rowAt (i := 3) rfl
 obtain ⟨g7, rfl⟩ : ∃ g, A3 = some ⟨g, 0, none⟩ := by
   obtain ⟨g, hg, _⟩ := hOR.el 0 (by omega)
   exact ⟨g, hg⟩
 have hfl:=(hRF.to (w' := w3)).flen
 refine wl_idx0 (size := 33) (by decide) sl30 rfl rfl rfl k rfl (by omega) ?_
 rw [show (⟨g7, 0, none⟩ : Addr).add (k * 33) = ⟨g7, rows.flatten.length, none⟩ by rw [add_lit', hfl, hxk, Nat.zero_add]; rfl]
 have hpc:=((((hp.tail.up 1 rfl).up 2 rfl).up 2 rfl).as_ (H' := itB gr 103 [.slice A2 l2.length c2, .bool b2] :: itR 95 33 (some ⟨g7, 0, none⟩) (xs.length + 1) c3 (rows.flatten ++ (([Value.int .i64 0] ++ (digC dig0)) ++ [])) :: X ([.slice (some ⟨g7, 0, none⟩) (xs.length + 1) c3]) :: H) rfl)
 have hcl:=hE _ _ _ (fun cs => itR 95 33 (some ⟨g7, 0, none⟩) (xs.length + 1) c3 (rows.flatten ++ (cs ++ []))) ⟨g7, rows.flatten.length, none⟩ _ _ _ _ mv hpc (Slot.row rows.flatten [] (by decide)) (hl2.to (w' := w3))
 refine wl_callF (vs := [.pointer (some ⟨g7, rows.flatten.length, none⟩)]) (by decide) rfl rfl (fun _ h => by cases h) hcl ?_
 clear hcl
 rintro _ w9 ⟨F9, A9, c9, l9, b9, cs9, x9, hp, hF9, hl9, hrd9, hst9⟩
 have hp:=hp.ay (_ :: _ :: _ :: _)
 have hp:=(hp.up 2 rfl).as_ (H' := _ :: _ :: _ :: _) rfl
 have hp:=(hp.up 1 rfl).as_ (H' := _ :: _ :: _ :: _) rfl
 refine so ?_
 refine Kl [1, 3, 21, 22] hKL1 (x1.toNat - (k + 1)) ⟨(k + 1), F9, A9, c9, l9, b9, (some ⟨g7, 0, none⟩), c3, (xs ++ [x9]), (rows ++ [cs9]), rfl, by omega, ?_, (hRF.to.append (RF.one hrd9)), mv, hl9, StepP.snoc hstL hst9, ?_, rfl⟩ (by omega)
 rw [List.length_append, hxk]; rfl
 rw [flat_snoc, List.length_append]; exact hp
 refine so ?_
 refine wk_post0 (.inr rfl) results95  ?_
 obtain ⟨F8, hp8, hs8, hb8⟩ := ((hp.up 2 rfl).as_ (H' := _ :: _ :: _ :: _) rfl).frzRow
 have hgs:=OwnRow.gsRF (r := markR) (hp.rowAt (i := 2) rfl) (hRF.wid hs8) hb8
 exact ⟨_, rfl, F8, A2, c2, l2, b2, _, xs, hp8, hFr.wid hs8, hl2.wid hs8, sliceR_mk hgs, StepP.bind hst1 (by rw [show x1.toNat = k by omega]; exact hstL)⟩
set_option maxHeartbeats 40000000 in
theorem rListP_ok {gr : Nat} {l : List UInt8} {bad : Bool} {X : List Value → It} {pX : Addr} {most : Int} {p : PR Pck} {FV : Value} (hp : HP w0 M0 Fz w (itB gr 103 [.slice A l.length c, .bool bad] :: X ([.slice none 0 0]) :: H)) (hS : Slot X pX 1) (hl : GS byteR Fz w A c l) (hE : EachR prog 103 gr w0 M0 Fz w pickR ([Value.int .i64 0] ++ (digC dig0 ++ ([Value.slice none 0 0]))) p FV) (hm : most ≤ 100) : Ret prog 111 #[.iface 101 (.pointer (some ⟨gr, 0, none⟩)), .pointer (some pX), .int .i64 most, FV] w (RdP 103 gr w0 M0 Fz w H X (sliceR pickR) (listP p most) bad l) := by
 refine ret_of_wk func111 rfl ntmps111 leB_ ?_
 refine so ?_
 refine wdP 9 hp (fun wD hp hED => by refine pm ?_; exact .op rfl (Ld_ sc35 rfl (hp.slotAt (i := 1) hS rfl rfl).head (wl_nil qp)) pl) fun wD hp hED => ?_
 refine Ci rfl (nMany_ok (m0 := 0) (most := most) hp hl.to) ?_
 rintro _ w1 ⟨F1, A1, c1, l1, b1, x1, rfl, hp, hF1, hl1, hst1, hz1⟩
 have hML : ∀ q : Int, 0 ≤ q → q < x1 → x1 ≤ most := by
   intro q h0 h1
   cases hq : b1 with
   | false => exact (many_lim hst1 hq).2
   | true => have := hz1 hq; omega
 refine so ?_
 refine Lp [1, 3, 21, 22] (fun L' w' mes => ∃ (k : Nat), ∃ (F1 : Nat → Prop), ∃ (A2 : Option Addr), ∃ (c2 : Nat), ∃ (l2 : List UInt8), ∃ (b2 : Bool), ∃ (AL : Option Addr), ∃ (cL : Nat), ∃ (xs : List Pck), ∃ (rows : List (List Value)), L' = [(1, .pointer (some pX)), (3, FV), (21, iv x1), (22, iv (k : Int))] ∧ (k ≤ x1.toNat) ∧ (xs.length = k) ∧ (RF pickR F1 w' rows xs) ∧ (Frz Fz F1 w w') ∧ (GS byteR F1 w' A2 c2 l2) ∧ (StepP (repP p k) (rst b1 l1) (rst b2 l2) xs) ∧ (HP w0 M0 F1 w' (itB gr 103 [.slice A2 l2.length c2, .bool b2] :: X ([.slice AL xs.length cL]) :: itR 66 34 AL xs.length cL rows.flatten :: H)) ∧ x1.toNat - k = mes) (x1.toNat - 0) (by
     refine ⟨0, F1, A1, c1, l1, b1, none, 0, [], [], rfl, Nat.zero_le _, ?_, RF.nil _ _ _, mv, hl1, StepP.pure _ _, ((hp.noRow 66 34).as_ (H' := _ :: _ :: _ :: _) rfl).rot3, rfl⟩
     rfl) ?_
 rintro _ wr _ ⟨k, F1, A2, c2, l2, b2, AL, cL, xs, rows, rfl, hk, hxk, hRF, hFr, hl2, hstL, hp, rfl⟩ KL1 hKL1
 refine so ?_
 refine Cd ?_ ?_<;>intro hc1
 have hx9:=hML k (by omega) (by omega)
 refine so ?_
 refine Ld_ sc35 rfl (hp.slotAt (i := 1) hS rfl rfl).head (so ?_)
 refine aT (so ?_)
 refine Alo hp (h := fun gs10 w2 hp hE2 => ?_)
 replace hp:=hp.ay (itB gs10 66 ([iv pick0.seq] ++ (digC pick0.dig ++ ([s0]))) :: _)
 refine so ?_
 obtain ⟨KM, ⟨hRo, hRk⟩, hKF, hKlt, hpo, hup⟩ := hp.apart (i := 3) rfl
 apply wc_drawTM 7 6 KM [.eq _,.eq _,.eq _,.eq _,.eq _,SP.tmpR _ 66 34 1 ([Value.int .i64 0] ++ (digC dig0 ++ ([Value.slice none 0 0]))),SP.turn KM _ 66 34 (xs.length + 1) (rows.flatten ++ ([Value.int .i64 0] ++ (digC dig0 ++ ([Value.slice none 0 0]))))] (by kernel_rfl) (by kernel_rfl) ⟨.inr (fun _ _ _ _ h => h),.inr (fun _ _ _ _ h => h),.inr (fun _ _ _ _ h => h),.inr (fun _ _ _ _ h => h),.inr (fun _ _ _ _ h => h),.inr (SP.tmpR_st hKlt),.inl rfl,trivial⟩
 refine ⟨?_,?_,?_,?_,?_,?_,?_,trivial⟩<;>intro F wF hER hEE hk
 exact dm (hk.qi 1)
 exact dm (hk.qi 1)
 exact Nc_ (hk.qe 1) qz
 exact Ld_ sc35 (hk.qe 2) ((hpo _ hER).slotAt (i := 2) hS rfl rfl).head qz
 exact Hx_ ([iv pick0.seq] ++ (digC pick0.dig ++ ([s0]))) 0 ag66 (hk.qi 10) (hpo _ hER) rfl rfl rfl qz
 have e35:=hk.qe 4
 refine wl_bslice (size := 34) (xs := [.tmp 35]) (vs := [.agg ([Value.int .i64 0] ++ (digC dig0 ++ ([Value.slice none 0 0]))).toArray]) (by decide) sl35 rfl (by simp only [evs, ev, e35]; first | done | rfl) rfl (by intro v hv; rw [List.mem_singleton.1 hv]; rfl) leB_ 0 (Nat.zero_le _) ?_
 rintro gt wt hgt hot hEt
 exact qz ⟨hEt, gt, rfl, by rw [hgt]; exact hER.size, hot⟩
 have hEx:=hEE rfl
 have e34:=hk.qe 3
 obtain ⟨u36, e36, h36⟩:=hk.qp 5
 obtain ⟨gt, rfl, hgt0, hot⟩ := h36
 refine wl_append (size := 34) (m := 1) (news := [Value.int .i64 0] ++ (digC dig0 ++ ([Value.slice none 0 0]))) (by decide) sl35 e34 e36 (hRo.ext hEx) rfl (fun b hb => by cases hb; exact hot.at0) (by simp) (List.all_eq_true.1 rfl) (by omega) (Nat.zero_le _) ?_
 rintro A3 c3 w3 ho3 hch3 h43
 exact qz ⟨hch3.weak (fun b _ x => (hRk b).2 ⟨x.1, x.2.2⟩), A3, c3, rfl, ho3, fun b hb => (by
     rcases h43 with ⟨rfl, rfl⟩ | rfl
     · exact .inl ((hRk b).2 hb)
     · obtain ⟨_, a, ha, rfl⟩ := hb
       cases ha
       exact .inr hEx.size)⟩
 intro F wD hED hini hdo
 have e1:=di hini 1
 have e3:=di hini 3
 have e9:=di hini 9
 have e21:=di hini 21
 have e22:=di hini 22
 have e31:=dr hdo 0
 obtain ⟨u37, e37, h37⟩ := hdo 6 37 (Nat.lt_of_lt_of_eq (by decide) rfl) rfl
 obtain ⟨A3, c3, rfl, ho3, hK3⟩ := h37
 refine wl_drop [(1, _), (3, _), (9, _), (21, _), (22, _), (31, _), (37, _)] ⟨e1, e3, e9, e21, e22, e31, e37, trivial⟩ ?_
 clear e1 e3 e9 e21 e22 e31 e37 hini hdo
 have hcz:=hED.zz hKF
 replace hp:=hup _ (itR 66 34 A3 (xs.length + 1) c3 (rows.flatten ++ ([Value.int .i64 0] ++ (digC dig0 ++ ([Value.slice none 0 0]))))) (fun b => c3 ≠ 0 ∧ blk A3 b) hED ⟨ho3, fun _ => Iff.rfl⟩ hK3
 refine so ?_
 refine wl_sstore1 0 (i := 2) hS (by rw [add_zero']; rfl) rfl hp rfl rfl sz35 (by decide) rfl ?_
 rintro w3 hp hC3
 refine so ?_
 refine Ld_ sc35 rfl (hp.slotAt (i := 2) hS rfl rfl).head (so ?_)
 have hOR:=hp.rowAt (i := 3) rfl
 obtain ⟨g7, rfl⟩ : ∃ g, A3 = some ⟨g, 0, none⟩ := by
   obtain ⟨g, hg, _⟩ := hOR.el 0 (by omega)
   exact ⟨g, hg⟩
 have hfl:=(hRF.to (w' := w3)).flen
 refine wl_idx0 (size := 34) (by decide) sl35 rfl rfl rfl k rfl (by omega) ?_
 rw [show (⟨g7, 0, none⟩ : Addr).add (k * 34) = ⟨g7, rows.flatten.length, none⟩ by rw [add_lit', hfl, hxk, Nat.zero_add]; rfl]
 have hpc:=((((hp.tail.up 1 rfl).up 2 rfl).up 2 rfl).as_ (H' := itB gr 103 [.slice A2 l2.length c2, .bool b2] :: itR 66 34 (some ⟨g7, 0, none⟩) (xs.length + 1) c3 (rows.flatten ++ (([Value.int .i64 0] ++ (digC dig0 ++ ([Value.slice none 0 0]))) ++ [])) :: X ([.slice (some ⟨g7, 0, none⟩) (xs.length + 1) c3]) :: H) rfl)
 have hcl:=hE _ _ _ (fun cs => itR 66 34 (some ⟨g7, 0, none⟩) (xs.length + 1) c3 (rows.flatten ++ (cs ++ []))) ⟨g7, rows.flatten.length, none⟩ _ _ _ _ mv hpc (Slot.row rows.flatten [] (by decide)) (hl2.to (w' := w3))
 refine wl_callF (vs := [.pointer (some ⟨g7, rows.flatten.length, none⟩)]) (by decide) rfl rfl (fun _ h => by cases h) hcl ?_
 clear hcl
 rintro _ w9 ⟨F9, A9, c9, l9, b9, cs9, x9, hp, hF9, hl9, hrd9, hst9⟩
 have hp:=hp.ay (_ :: _ :: _ :: _)
 have hp:=(hp.up 2 rfl).as_ (H' := _ :: _ :: _ :: _) rfl
 have hp:=(hp.up 1 rfl).as_ (H' := _ :: _ :: _ :: _) rfl
 refine so ?_
 refine Kl [1, 3, 21, 22] hKL1 (x1.toNat - (k + 1)) ⟨(k + 1), F9, A9, c9, l9, b9, (some ⟨g7, 0, none⟩), c3, (xs ++ [x9]), (rows ++ [cs9]), rfl, by omega, ?_, (hRF.to.append (RF.one hrd9)), mv, hl9, StepP.snoc hstL hst9, ?_, rfl⟩ (by omega)
 rw [List.length_append, hxk]; rfl
 rw [flat_snoc, List.length_append]; exact hp
 refine so ?_
 refine wk_post0 (.inr rfl) results111  ?_
 obtain ⟨F8, hp8, hs8, hb8⟩ := ((hp.up 2 rfl).as_ (H' := _ :: _ :: _ :: _) rfl).frzRow
 have hgs:=OwnRow.gsRF (r := pickR) (hp.rowAt (i := 2) rfl) (hRF.wid hs8) hb8
 exact ⟨_, rfl, F8, A2, c2, l2, b2, _, xs, hp8, hFr.wid hs8, hl2.wid hs8, sliceR_mk hgs, StepP.bind hst1 (by rw [show x1.toNat = k by omega]; exact hstL)⟩
theorem t0_wParse_ok {p : Prop} (h : p := by rw [show x22.toNat = k by omega]; exact hstL) : p := h
set_option maxHeartbeats 40000000 in
theorem wParse_ok {l : List UInt8} (hp : HP w0 M0 Fz w H) (hl : GS byteR Fz w A c l) : Ret prog 197 #[.slice A l.length c] w (fun v w2 => ∃ F2 cs x e, v = .tuple #[.agg cs.toArray, .int .i64 e] ∧ HP w0 M0 F2 w2 H ∧ Frz Fz F2 w w2 ∧ wishR.rd F2 w2 cs x ∧ ParseR l x e) := by
 refine ret_of_wk func197 rfl ntmps197 leB_ ?_
 refine so ?_
 refine Alo hp (h := fun gs2 w1 hp hE1 => so ?_)
 refine wl_builtS (ps := [(0, .tmp 9)]) (by decide) bld207 rfl rfl ?_
 refine Bx hp (h := fun gs11 w2 hp hE2 => so ?_)
 refine Alo hp (h := fun gs5 w3 hp hE3 => so ?_)
 refine wl_bslice (size := 1) (xs := [.tmp 12, .tmp 13, .tmp 14, .tmp 15, .tmp 16, .tmp 17]) (vs := [pt gs5 4, pt gs5 0, pt gs5 1, pt gs5 2, pt gs5 3, pt gs5 5]) (by decide) sl209 rfl rfl rfl (by intro v hv; simp only [List.mem_cons, List.not_mem_nil, or_false] at hv; rcases hv with rfl | rfl | rfl | rfl | rfl | rfl <;> rfl) leB_ _ (Nat.le_refl _) ?_
 rintro gpp wpp hgpp hopp hEpp
 replace hp:=((hp.newRow hEpp hgpp hopp).as_ (H' := itR 125 1 (some ⟨gpp, 0, none⟩) 6 6 [pt gs5 4, pt gs5 0, pt gs5 1, pt gs5 2, pt gs5 3, pt gs5 5] :: _) rfl)
 refine so ?_
 refine wc_unroll 7 ?_
 refine wc_unfold (so ?_)
 refine aT (so ?_)
 refine wl_idx0 (size := 1) (by decide) sl209 rfl rfl rfl 0 rfl (by decide) ?_
 refine Ld_ sc125 rfl ((hp.rowAt (i := 0) rfl).at0.get (j := 0) rfl) (so ?_)
 replace hp:=(hp.up 2 rfl).as_ (H' := itB gs11 207 ([.slice A l.length c, iv 0]) :: itR 125 1 (some ⟨gpp, 0, none⟩) 6 6 [pt gs5 4, pt gs5 0, pt gs5 1, pt gs5 2, pt gs5 3, pt gs5 5] :: itB gs5 68 ([iv wish0.client, iv wish0.stamp, iv wish0.group, iv wish0.epoch, iv wish0.kind, iv wish0.block, s0, iv wish0.old, iv wish0.new, s0]) :: itB gs2 68 ([iv wish0.client, iv wish0.stamp, iv wish0.group, iv wish0.epoch, iv wish0.kind, iv wish0.block, s0, iv wish0.old, iv wish0.new, s0]) :: H) rfl
 refine Ce (wNum_ok hp hl.to) ?_
 rintro v4 w4 ⟨F4, A4, c4, l4, b4, cs4, x4, hv4, hp, hF4, hl4, hrd4, hst4⟩
 obtain ⟨hI4, rfl⟩ := hrd4
 obtain rfl : v4 = iv x4 := hv4
 have hJ4:=hI4
 unfold i64 at hJ4
 refine so ?_
 refine H1 2 hp (h := fun w5 hp hC5 => sl ?_)
 refine wc_region ?_
 refine sl ?_
 refine wc_unfold (so ?_)
 refine aT (so ?_)
 refine wl_idx0 (size := 1) (by decide) sl209 rfl rfl rfl 1 rfl (by decide) ?_
 refine Ld_ sc125 rfl ((hp.rowAt (i := 1) rfl).at0.get (j := 1) rfl) (so ?_)
 refine Ce (wNum_ok hp hl4.to) ?_
 rintro v6 w6 ⟨F6, A6, c6, l6, b6, cs6, x6, hv6, hp, hF6, hl6, hrd6, hst6⟩
 obtain ⟨hI6, rfl⟩ := hrd6
 obtain rfl : v6 = iv x6 := hv6
 have hJ6:=hI6
 unfold i64 at hJ6
 refine so ?_
 refine H1 2 hp (h := fun w7 hp hC7 => sl ?_)
 refine wc_region ?_
 refine sl ?_
 refine wc_unfold (so ?_)
 refine aT (so ?_)
 refine wl_idx0 (size := 1) (by decide) sl209 rfl rfl rfl 2 rfl (by decide) ?_
 refine Ld_ sc125 rfl ((hp.rowAt (i := 1) rfl).at0.get (j := 2) rfl) (so ?_)
 refine Ce (wNum_ok hp hl6.to) ?_
 rintro v8 w8 ⟨F8, A8, c8, l8, b8, cs8, x8, hv8, hp8, hF8, hl8, hrd8, hst8⟩
 obtain ⟨hI8, rfl⟩ := hrd8
 obtain rfl : v8 = iv x8 := hv8
 have hJ8:=hI8
 unfold i64 at hJ8
 replace hp:=hp8
 refine so ?_
 refine H1 2 hp (h := fun w9 hp9 hC9 => ?_)
 replace hp:=hp9
 refine sl ?_
 refine wc_region ?_
 refine sl ?_
 refine wc_unfold (so ?_)
 refine aT (so ?_)
 refine wl_idx0 (size := 1) (by decide) sl209 rfl rfl rfl 3 rfl (by decide) ?_
 refine Ld_ sc125 rfl ((hp.rowAt (i := 1) rfl).at0.get (j := 3) rfl) (so ?_)
 refine Ce (wNum_ok hp hl8.to) ?_
 rintro v10 w10 ⟨F10, A10, c10, l10, b10, cs10, x10, hv10, hp, hF10, hl10, hrd10, hst10⟩
 obtain ⟨hI10, rfl⟩ := hrd10
 obtain rfl : v10 = iv x10 := hv10
 have hJ10:=hI10
 unfold i64 at hJ10
 refine so ?_
 refine H1 2 hp (h := fun w11 hp hC11 => sl ?_)
 refine wc_region ?_
 refine sl ?_
 refine wc_unfold (so ?_)
 refine aT (so ?_)
 refine wl_idx0 (size := 1) (by decide) sl209 rfl rfl rfl 4 rfl (by decide) ?_
 refine Ld_ sc125 rfl ((hp.rowAt (i := 1) rfl).at0.get (j := 4) rfl) (so ?_)
 refine Ce (wNum_ok hp hl10.to) ?_
 rintro v12 w12 ⟨F12, A12, c12, l12, b12, cs12, x12, hv12, hp, hF12, hl12, hrd12, hst12⟩
 obtain ⟨hI12, rfl⟩ := hrd12
 obtain rfl : v12 = iv x12 := hv12
 have hJ12:=hI12
 unfold i64 at hJ12
 refine so ?_
 refine H1 2 hp (h := fun w13 hp hC13 => sl ?_)
 refine wc_region ?_
 refine sl ?_
 refine wc_unfold (so ?_)
 refine aT (so ?_)
 refine wl_idx0 (size := 1) (by decide) sl209 rfl rfl rfl 5 rfl (by decide) ?_
 refine Ld_ sc125 rfl ((hp.rowAt (i := 1) rfl).at0.get (j := 5) rfl) (so ?_)
 refine Ce (wNum_ok hp hl12.to) ?_
 rintro v14 w14 ⟨F14, A14, c14, l14, b14, cs14, x14, hv14, hp, hF14, hl14, hrd14, hst14⟩
 obtain ⟨hI14, rfl⟩ := hrd14
 obtain rfl : v14 = iv x14 := hv14
 have hJ14:=hI14
 unfold i64 at hJ14
 refine so ?_
 refine H1 2 hp (h := fun w15 hp hC15 => sl ?_)
 refine wc_region ?_
 refine sl ?_
 refine wc_unfold (so ?_)
 refine aF (so ?_)
 refine Ce (wStr_ok (most := 16) hp hl14.to) ?_
 rintro v16 w16 ⟨F16, A16, c16, l16, b16, cs16, x16, hv16, hp, hF16, hl16, hrd16, hst16⟩
 obtain ⟨B16, d16, rfl, hg16⟩ := hrd16
 obtain rfl : v16 = .slice B16 x16.length d16 := hv16
 refine so ?_
 refine H1 2 hp (h := fun w17 hp hC17 => so ?_)
 refine Ce (wNum_ok hp hl16.to) ?_
 rintro v18 w18 ⟨F18, A18, c18, l18, b18, cs18, x18, hv18, hp, hF18, hl18, hrd18, hst18⟩
 obtain ⟨hI18, rfl⟩ := hrd18
 obtain rfl : v18 = iv x18 := hv18
 have hJ18:=hI18
 unfold i64 at hJ18
 refine so ?_
 refine H1 2 hp (h := fun w19 hp hC19 => so ?_)
 refine Ce (wNum_ok hp hl18.to) ?_
 rintro v20 w20 ⟨F20, A20, c20, l20, b20, cs20, x20, hv20, hp, hF20, hl20, hrd20, hst20⟩
 obtain ⟨hI20, rfl⟩ := hrd20
 obtain rfl : v20 = iv x20 := hv20
 have hJ20:=hI20
 unfold i64 at hJ20
 refine so ?_
 refine H1 2 hp (h := fun w21 hp hC21 => so ?_)
 refine Ce (wMany_ok (most := 7) hp hl20.to (by decide)) ?_
 rintro _ w22 ⟨F22, A22, c22, l22, b22, x22, rfl, hp, hF22, hl22, hst22, hxm22⟩
 refine so ?_
 refine Lp [2, 4, 5, 39, 40] (fun L' w' mes => ∃ (k : Nat), ∃ (Fq : Nat → Prop), ∃ (Aq : Option Addr), ∃ (cq : Nat), ∃ (lq : List UInt8), ∃ (bq : Int), ∃ (AL : Option Addr), ∃ (cL : Nat), ∃ (xs : List Int), ∃ (rows : List (List Value)), L' = [(2, pt gs2 0), (4, pt gs11 0), (5, pt gs5 0), (39, iv x22), (40, iv (k : Int))] ∧ (k ≤ x22.toNat) ∧ (xs.length = k) ∧ (RF i64R Fq w' rows xs) ∧ (Frz Fz Fq w w') ∧ (GS byteR Fq w' Aq cq lq) ∧ (StepP (repP numP k) (rst (decide (b22 ≠ 0)) l22) (rst (decide (bq ≠ 0)) lq) xs) ∧ (GS byteR Fq w' B16 d16 x16) ∧ (HP w0 M0 Fq w' (itB gs11 207 [.slice Aq lq.length cq, iv bq] :: itB gs5 68 ([iv x6, iv x8, iv x10, iv x12, iv x4, iv x14, .slice B16 x16.length d16, iv x18, iv x20, .slice AL xs.length cL]) :: itR 3 1 AL xs.length cL rows.flatten :: itR 125 1 (some ⟨gpp, 0, none⟩) 6 6 [pt gs5 4, pt gs5 0, pt gs5 1, pt gs5 2, pt gs5 3, pt gs5 5] :: itB gs2 68 ([iv wish0.client, iv wish0.stamp, iv wish0.group, iv wish0.epoch, iv wish0.kind, iv wish0.block, s0, iv wish0.old, iv wish0.new, s0]) :: H)) ∧ x22.toNat - k = mes) (x22.toNat - 0) (by
     refine ⟨0, F22, A22, c22, l22, b22, none, 0, [], [], rfl, Nat.zero_le _, ?_, RF.nil _ _ _, mv, hl22, StepP.pure _ _, hg16.to, ?_, rfl⟩
     rfl
     replace hp := ((hp.up 2 rfl).up 1 rfl).as_ (H' := itB gs11 207 ([.slice A22 l22.length c22, iv b22]) :: itB gs5 68 ([iv x6, iv x8, iv x10, iv x12, iv x4, iv x14, .slice B16 x16.length d16, iv x18, iv x20, s0]) :: itR 125 1 (some ⟨gpp, 0, none⟩) 6 6 [pt gs5 4, pt gs5 0, pt gs5 1, pt gs5 2, pt gs5 3, pt gs5 5] :: itB gs2 68 ([iv wish0.client, iv wish0.stamp, iv wish0.group, iv wish0.epoch, iv wish0.kind, iv wish0.block, s0, iv wish0.old, iv wish0.new, s0]) :: H) rfl
     exact (((((((hp.noRow 3 1).up 4 rfl).up 4 rfl).up 2 rfl).up 4 rfl).up 4 rfl)).as_ (H' := _ :: _ :: _ :: _ :: _ :: _) rfl) ?_
 rintro _ wr _ ⟨k, Fq, Aq, cq, lq, bq, AL, cL, xs, rows, rfl, hk, hxk, hRF, hFr, hlq, hstL, hg16, hp, rfl⟩ KL2 hKL2
 refine so ?_
 refine Cd ?_ ?_<;>intro hc1
 refine so ?_
 refine wc_drawE 5 3 45 4 46 (fun w9 v w2 => RvE 207 gs11 w0 M0 Fq w9 (itB gs5 68 ([iv x6, iv x8, iv x10, iv x12, iv x4, iv x14, .slice B16 x16.length d16, iv x18, iv x20, .slice AL xs.length cL]) :: itR 3 1 AL xs.length cL rows.flatten :: itR 125 1 (some ⟨gpp, 0, none⟩) 6 6 [pt gs5 4, pt gs5 0, pt gs5 1, pt gs5 2, pt gs5 3, pt gs5 5] :: itB gs2 68 ([iv wish0.client, iv wish0.stamp, iv wish0.group, iv wish0.epoch, iv wish0.kind, iv wish0.block, s0, iv wish0.old, iv wish0.new, s0]) :: H) i64R false numP bq lq v w2) OneOf (fun i v => match i with | 0 => v = pt gs5 9 | 1 => v = .slice AL xs.length cL | _ => v = pt gs11 0) rfl (by kernel_rfl) (by kernel_rfl) (fun v w1 w2 hE h => h.ext hE) (fun v u w1 w2 hE h => h.ext hE) ⟨?_, ?_, ?_, ?_, ?_, trivial⟩ ?_ ?_ ?_
 refine .inr (.inr ?_)
 intro F wF hPP hk
 have e5:=hk.init 5 _ rfl (by kernel_rfl)
 refine Fd_ 9 fld68_9 e5 rfl ?_
 exact qz ⟨Chg.refl _ _, rfl⟩
 refine .inr (.inr ?_)
 intro F wF hPP hk
 obtain ⟨u42, e42, h42⟩ := hk.pred 0 (by kernel_rfl) 42 rfl
 obtain rfl : u42 = pt gs5 9 := by simpa using h42
 rcases hPP with hER | ⟨v9, F9, A9, c9, l9, b9, cs9, x9, hv9, hp9, _⟩
 refine Hl_ 1 sc27 e42 (hp.ext hER) rfl rfl ?_
 exact qz ⟨Chg.refl _ _, rfl⟩
 refine Hl_ 1 sc27 e42 hp9 rfl rfl ?_
 exact qz ⟨Chg.refl _ _, rfl⟩
 refine .inr (.inr ?_)
 intro F wF hPP hk
 have e4:=hk.init 4 _ rfl (by kernel_rfl)
 refine Mv_ e4 ?_
 exact qz ⟨Chg.refl _ _, rfl⟩
 exact .inl rfl
 exact .inr (.inl rfl)
 intro o ho F wF hER hk
 cases ho
 obtain ⟨u44, e44, h44⟩ := hk.pred 2 (by kernel_rfl) 44 rfl
 obtain rfl : u44 = pt gs11 0 := by simpa using h44
 have hcl:=wNum_ok (hp.ext hER) (hlq.ext hER)
 refine Cl_ cl200 (by simp only [evs, ev, e44]; first | done | rfl) hcl ?_
 intro v9 w9 hv9
 exact wl_nil (qr_some (hv9.from hER))
 intro o ho F wF v9 e45 hPo hk
 cases ho
 obtain ⟨F23, A23, c23, l23, b23, cs23, x23, hv23, hp23, hF23, hl23, hrd23, hst23⟩ := hPo
 obtain ⟨hI23, rfl⟩ := hrd23
 obtain rfl : v9 = iv x23 := hv23
 refine wl_oneOf (by decide) sl27 rfl e45 rfl leB_ ?_
 intro u9 w9 h9 hE9
 exact qz ⟨hE9, h9⟩
 intro F wD v9 u9 e45 hPo e46 hOn hini hdo
 obtain ⟨F23, A23, c23, l23, b23, cs23, x23, hv23, hp23, hF23, hl23, hrd23, hst23⟩ := hPo
 obtain ⟨hI23, rfl⟩ := hrd23
 obtain rfl : v9 = iv x23 := hv23
 obtain ⟨gt, rfl, hat9⟩ := hOn
 have e2:=hini 2 _ rfl (by kernel_rfl)
 have e4:=hini 4 _ rfl (by kernel_rfl)
 have e5:=hini 5 _ rfl (by kernel_rfl)
 have e39:=hini 39 _ rfl (by kernel_rfl)
 have e40:=hini 40 _ rfl (by kernel_rfl)
 obtain ⟨u43, e43, h43⟩ := hdo 1 43 (Nat.lt_of_lt_of_eq (by decide) rfl) rfl
 obtain rfl : u43 = .slice AL xs.length cL := by simpa using h43
 refine wl_drop [(2, _), (4, _), (5, _), (39, _), (40, _), (43, _), (46, _)] ⟨e2, e4, e5, e39, e40, e43, e46, trivial⟩ ?_
 clear hini hdo
 replace hp:=hp23
 refine wl_happend (i := 2) (m := 1) (size := 1) (news := [iv x23]) (by decide) sl27 rfl rfl hp rfl rfl (fun b hb => by cases hb; exact hat9) (by simp) (List.all_eq_true.1 rfl) (by omega) ?_
 rintro Aw cw ww hpw hCw
 replace hp:=hpw
 refine so ?_
 refine H1 1 hp (h := fun w24 hp hC24 => so ?_)
 refine Kl [2, 4, 5, 39, 40] hKL2 (x22.toNat - (k + 1)) ⟨(k + 1), F23, A23, c23, l23, b23, Aw, cw, (xs ++ [x23]), (rows ++ [[iv x23]]), rfl, by omega, ?_, hRF.to.append (RF.one ⟨hI23, rfl⟩), mv, hl23.to, StepP.snoc hstL hst23, hg16.to, ?_, rfl⟩ (by omega)
 rw [List.length_append, hxk]; rfl
 rw [flat_snoc, List.length_append]; exact ((((((hp.up 4 rfl).up 4 rfl).up 4 rfl).up 4 rfl).up 4 rfl).as_ (H' := _ :: _ :: _ :: _ :: _ :: _) rfl)
 have hrowA:=hp.rowAt (i := 2) rfl
 obtain ⟨F8, hp8, hs8, hb8⟩ := ((hp.up 2 rfl).as_ (H' := _ :: _ :: _ :: _ :: _ :: _) rfl).frzRow
 have hgs:=OwnRow.gsRF (r := i64R) hrowA (hRF.wid hs8) hb8
 replace hp:=hp8
 replace hgs:=hgs.ints
 refine so ?_
 refine Ce (wEnd_ok hp hlq.to) ?_
 rintro _ w25 ⟨e2, e3, rfl, hen, hp, hF25⟩
 replace hg16:=(hg16.to (w' := w25))
 replace hgs:=hgs.fz hF25.chg
 refine so ?_
 refine Cd ?_ ?_<;>intro hc2<;>refine so ?_
 refine Cx hp (wCheck_ok (w0 := ({ client := x6, stamp := x8, group := x10, epoch := x12, kind := x4, block := x14, data := x16, old := x18, new := x20, next := xs } : Wsh)) ⟨⟨hI6, hI8, hI10, hI12, hI4, hI14, hI18, hI20⟩, _, _, _, _, rfl, hg16, hgs⟩) fun w26 hp hE26 => so ?_
 refine Cd ?_ ?_<;>intro hc3<;>refine so ?_
 refine wl_builtS (ps := []) (by decide) bld68 rfl rfl ?_
 refine so ?_
 refine Hs 3 hp (h := fun w27 hp hC27 => so ?_)
 refine wk_postR (rs := [.cell 2 68, .tmp 3]) (.inl rfl) results197 ⟨_, _, _, rfl, rfl, loadVar_agg ag68 (hp.blkAt (i := 3) rfl).at0 rfl, ⟨_, _, rfl, rfl, rfl⟩⟩ ?_
 have hPX:=(show StepP wishP (some l) _ ({ client := x6, stamp := x8, group := x10, epoch := x12, kind := x4, block := x14, data := x16, old := x18, new := x20, next := xs } : Wsh) from StepP.bind hst4 (StepP.bind hst6 (StepP.bind hst8 (StepP.bind hst10 (StepP.bind hst12 (StepP.bind hst14 (StepP.bind hst16 (StepP.bind hst18 (StepP.bind hst20 (StepP.bind (StepP.bind hst22 t0_wParse_ok) (StepP.pure _ _)))))))))))
 have hpE:=hp.tail.tail.tail.tail
 first | (exfalso; omega) | exact ⟨_, rfl, _, _, wish0, _, rfl, hpE, mv, ⟨WshI0, none, 0, none, 0, rfl, gsn, gsn⟩, .inr ⟨by assumption, parse_no hPX hen (by omega), rfl⟩⟩ | exact ⟨_, rfl, _, _, wish0, _, rfl, hpE, mv, ⟨WshI0, none, 0, none, 0, rfl, gsn, gsn⟩, .inr ⟨by assumption, by rw [parse_some hPX hen (by omega), if_neg (show ¬ WishMay ({ client := x6, stamp := x8, group := x10, epoch := x12, kind := x4, block := x14, data := x16, old := x18, new := x20, next := xs } : Wsh) from fun hm => by simp [hm] at hc1 hc2 hc3)], rfl⟩⟩
 refine Hs 3 hp (h := fun w28 hp hC28 => so ?_)
 refine wk_postR (rs := [.cell 2 68, .tmp 3]) (.inl rfl) results197 ⟨_, _, _, rfl, rfl, loadVar_agg ag68 (hp.blkAt (i := 3) rfl).at0 rfl, ⟨_, _, rfl, rfl, rfl⟩⟩ ?_
 have hPX:=(show StepP wishP (some l) _ ({ client := x6, stamp := x8, group := x10, epoch := x12, kind := x4, block := x14, data := x16, old := x18, new := x20, next := xs } : Wsh) from StepP.bind hst4 (StepP.bind hst6 (StepP.bind hst8 (StepP.bind hst10 (StepP.bind hst12 (StepP.bind hst14 (StepP.bind hst16 (StepP.bind hst18 (StepP.bind hst20 (StepP.bind (StepP.bind hst22 t0_wParse_ok) (StepP.pure _ _)))))))))))
 have hpE:=hp.tail.tail.tail.tail
 first | (exfalso; omega) | exact ⟨_, rfl, _, _, ({ client := x6, stamp := x8, group := x10, epoch := x12, kind := x4, block := x14, data := x16, old := x18, new := x20, next := xs } : Wsh), 0, rfl, hpE, mv, ⟨⟨hI6, hI8, hI10, hI12, hI4, hI14, hI18, hI20⟩, _, _, _, _, rfl, hg16.to, hgs.to⟩, .inl ⟨rfl, by rw [parse_some hPX hen (by omega), if_pos (show WishMay ({ client := x6, stamp := x8, group := x10, epoch := x12, kind := x4, block := x14, data := x16, old := x18, new := x20, next := xs } : Wsh) from Decidable.byContradiction fun hm => by simp [hm] at hc1 hc2 hc3)]⟩⟩
 refine Cd ?_ ?_<;>intro hc4<;>refine so ?_
 refine wl_builtS (ps := []) (by decide) bld68 rfl rfl ?_
 refine so ?_
 refine Hs 3 hp (h := fun w29 hp hC29 => so ?_)
 refine wk_postR (rs := [.cell 2 68, .tmp 3]) (.inl rfl) results197 ⟨_, _, _, rfl, rfl, loadVar_agg ag68 (hp.blkAt (i := 3) rfl).at0 rfl, ⟨_, _, rfl, rfl, rfl⟩⟩ ?_
 have hPX:=(show StepP wishP (some l) _ ({ client := x6, stamp := x8, group := x10, epoch := x12, kind := x4, block := x14, data := x16, old := x18, new := x20, next := xs } : Wsh) from StepP.bind hst4 (StepP.bind hst6 (StepP.bind hst8 (StepP.bind hst10 (StepP.bind hst12 (StepP.bind hst14 (StepP.bind hst16 (StepP.bind hst18 (StepP.bind hst20 (StepP.bind (StepP.bind hst22 t0_wParse_ok) (StepP.pure _ _)))))))))))
 have hpE:=hp.tail.tail.tail.tail
 first | (exfalso; omega) | exact ⟨_, rfl, _, _, wish0, _, rfl, hpE, mv, ⟨WshI0, none, 0, none, 0, rfl, gsn, gsn⟩, .inr ⟨by assumption, parse_no hPX hen (by omega), rfl⟩⟩ | exact ⟨_, rfl, _, _, wish0, _, rfl, hpE, mv, ⟨WshI0, none, 0, none, 0, rfl, gsn, gsn⟩, .inr ⟨by assumption, by rw [parse_some hPX hen (by omega), if_neg (show ¬ WishMay ({ client := x6, stamp := x8, group := x10, epoch := x12, kind := x4, block := x14, data := x16, old := x18, new := x20, next := xs } : Wsh) from fun hm => by simp [hm] at hc1 hc2 hc4)], rfl⟩⟩
 refine Hs 3 hp (h := fun w30 hp hC30 => so ?_)
 refine wk_postR (rs := [.cell 2 68, .tmp 3]) (.inl rfl) results197 ⟨_, _, _, rfl, rfl, loadVar_agg ag68 (hp.blkAt (i := 3) rfl).at0 rfl, ⟨_, _, rfl, rfl, rfl⟩⟩ ?_
 have hPX:=(show StepP wishP (some l) _ ({ client := x6, stamp := x8, group := x10, epoch := x12, kind := x4, block := x14, data := x16, old := x18, new := x20, next := xs } : Wsh) from StepP.bind hst4 (StepP.bind hst6 (StepP.bind hst8 (StepP.bind hst10 (StepP.bind hst12 (StepP.bind hst14 (StepP.bind hst16 (StepP.bind hst18 (StepP.bind hst20 (StepP.bind (StepP.bind hst22 t0_wParse_ok) (StepP.pure _ _)))))))))))
 have hpE:=hp.tail.tail.tail.tail
 first | (exfalso; omega) | exact ⟨_, rfl, _, _, ({ client := x6, stamp := x8, group := x10, epoch := x12, kind := x4, block := x14, data := x16, old := x18, new := x20, next := xs } : Wsh), 0, rfl, hpE, mv, ⟨⟨hI6, hI8, hI10, hI12, hI4, hI14, hI18, hI20⟩, _, _, _, _, rfl, hg16.to, hgs.to⟩, .inl ⟨rfl, by rw [parse_some hPX hen (by omega), if_pos (show WishMay ({ client := x6, stamp := x8, group := x10, epoch := x12, kind := x4, block := x14, data := x16, old := x18, new := x20, next := xs } : Wsh) from Decidable.byContradiction fun hm => by simp [hm] at hc1 hc2 hc4)]⟩⟩
end Go.Proofs.YtkdoomglflikkaaGreat
namespace Go.Proofs.YtkdoomglflikkaaGreat
open Go.ChangeShapes Go.WideShapes Go.ChangeAt Go.RowKit Go.Eng Go.Eng _root_.Go.Proofs.Tryz
set_option maxRecDepth 100000
variable {w0 w : World} {M0 Fz : Nat → Prop} {H : List It} {A : Option Addr} {c : Nat}
theorem reads_ChnB : ReadsR Tryz.prog 33 changeR ChnB := by
  intro H enc w base sp held fuel cs x h hlt hw
  have hlen := trod_structLen Tryz.underlying33 h
  rw [Tryz.ce33] at hlen
  obtain ⟨v0, h0, g0⟩ := reads_field Tryz.underlying33 (i := 0) rfl (reads_int Tryz.underlying3) h hlt hw
  replace h0 : intR.rd _ _ ((cs.drop 0).take (Tryz.prog.cellsOf 3)) v0 := h0
  rw [Tryz.ce3] at h0
  have e0 : (cs.drop 0).take 1 = [.int .i64 v0] := h0
  obtain ⟨v1, h1, g1⟩ := reads_field Tryz.underlying33 (i := 1) rfl (reads_int Tryz.underlying3) h hlt hw
  replace h1 : intR.rd _ _ ((cs.drop 1).take (Tryz.prog.cellsOf 3)) v1 := h1
  rw [Tryz.ce3] at h1
  have e1 : (cs.drop 1).take 1 = [.int .i64 v1] := h1
  obtain ⟨v2, h2, g2⟩ := reads_field Tryz.underlying33 (i := 2) rfl (reads_int Tryz.underlying3) h hlt hw
  replace h2 : intR.rd _ _ ((cs.drop 2).take (Tryz.prog.cellsOf 3)) v2 := h2
  rw [Tryz.ce3] at h2
  have e2 : (cs.drop 2).take 1 = [.int .i64 v2] := h2
  obtain ⟨v3, h3, g3⟩ := reads_field Tryz.underlying33 (i := 3) rfl reads_t30 h hlt hw
  replace h3 : (sliceR markR).rd _ _ ((cs.drop 3).take (Tryz.prog.cellsOf 30)) v3 := h3
  rw [Tryz.ce30] at h3
  obtain ⟨A3, c3, e3, k3⟩ := h3
  obtain ⟨v4, h4, g4⟩ := reads_field Tryz.underlying33 (i := 4) rfl reads_t31 h hlt hw
  replace h4 : (sliceR standR).rd _ _ ((cs.drop 4).take (Tryz.prog.cellsOf 31)) v4 := h4
  rw [Tryz.ce31] at h4
  obtain ⟨A4, c4, e4, k4⟩ := h4
  obtain ⟨v5, h5, g5⟩ := reads_field Tryz.underlying33 (i := 5) rfl reads_t31 h hlt hw
  replace h5 : (sliceR standR).rd _ _ ((cs.drop 5).take (Tryz.prog.cellsOf 31)) v5 := h5
  rw [Tryz.ce31] at h5
  obtain ⟨A5, c5, e5, k5⟩ := h5
  have e := (List.drop_zero (l := cs)).symm
  rw [seg_cons (m := 1) rfl e0] at e
  rw [seg_cons (m := 2) rfl e1] at e
  rw [seg_cons (m := 3) rfl e2] at e
  rw [seg_cons (m := 4) rfl e3] at e
  rw [seg_cons (m := 5) rfl e4] at e
  rw [seg_cons (m := 6) rfl e5] at e
  rw [List.drop_eq_nil_of_le (by rw [hlen]; exact Nat.le_refl _)] at e
  refine ⟨{ node := v0, view := v1, low := v2, marks := v3, p := v4, q := v5 }, ?_, ⟨g3, g4, g5⟩⟩
  refine ⟨by unfold ChnI i64; dsimp only; omega, _, _, _, _, _, _, e.trans (by (try simp only [List.cons_append, List.nil_append, List.append_nil]); try rfl), k3, k4, k5⟩
end Go.Proofs.YtkdoomglflikkaaGreat
namespace Go.Proofs.YtkdoomglflikkaaGreat
open Go.Eng Go.RowKit Go.Eng _root_.Go.Proofs.Tryz
set_option maxRecDepth 100000
variable {w0 w : World} {M0 Fz : Nat → Prop} {H : List It} {A : Option Addr} {c : Nat}
set_option maxHeartbeats 4000000 in
theorem lSpoil_ok {w : World} {S Sn : Nat → Prop} {csn : List Value} {n : Nte} (hlt : ∀ b, S b → b < w.heap.size) (hn : noteR.rd Sn w csn n) (hs : SpN S w csn n) : Ret prog 18 #[.agg csn.toArray] w (fun _ w' => IntW S w w') := by
 obtain ⟨hIn, An0, cn0, An1, cn1, An2, cn2, An3, cn3, An4, cn4, An5, cn5, An6, cn6, An7, cn7, An8, cn8, An9, cn9, An10, cn10, rfl, hn0, hn1, hn2, hn3, hn4, hn5, hn6, hn7, hn8, hn9, hn10⟩ := hn
 have m0 := hn0.mx
 have m6 := hn6.mx
 have m9 := hn9.mx
 have m10 := hn10.mx
 have db := hs.b An0 cn0 rfl
 have dd := hs.d An9 cn9 rfl
 have dk := hs.k An10 cn10 rfl
 have dg := hs.g An6 cn6 rfl
 refine ret_of_wk func18 rfl ntmps18 leB_ ?_
 have hp := HP.start w S
 refine so ?_
 refine wl_box (by decide) rfl ?_
 rintro gs1 w1 hg hb hE1
 replace hp := hp.add (x := itB gs1 38 _) hE1 (K := fun b => b = gs1) ⟨hb, fun _ => Iff.rfl⟩ (fun b hb => by rw [hb, hg]; exact Nat.le_refl _)
 have hgs : ¬ S gs1 := fun h => absurd (hlt _ h) (by rw [hg]; exact Nat.lt_irrefl _)
 have hW := (IntW.refl S w).ext hE1
 refine so ?_
 refine Lp [1, 2] (fun L' w' mes => ∃ (i : Nat), L' = [(1, pt gs1 0), (2, iv (i : Int))] ∧ i ≤ n.data.length ∧ IntW S w w' ∧ HP w S _ w' [itB gs1 38 _] ∧ n.data.length - i = mes) (n.data.length - 0) ⟨0, rfl, Nat.zero_le _, hW, hp, rfl⟩ ?_
 rintro _ wr _ ⟨i, rfl, hi, hW, hp, rfl⟩ KL1 hKL1
 refine so ?_
 refine Cd ?_ ?_<;>intro hc1
 ·refine so ?_
  obtain ⟨a, hA, hI⟩ := (dd.to hW) i (by omega)
  obtain ⟨v, hv⟩ := hI.ex
  refine wdP 10 hp (fun wD hp hED => by refine pm ?_; exact .op rfl (aLc (hED.cell hv (fun x => x)) (wl_nil qp)) (by refine pm ?_; exact .op rfl (wl_xor (by decide) rfl rfl rfl (wl_nil qp)) pl)) fun wD hp hED => ?_
  refine wl_storeI (((IntW.refl S wr).ext hED).int _ _ hI) (h := fun w2 hw2 => ?_)
  replace hW := (hW.ext hED).trans hw2
  replace hp := hp.int hgs hw2
  refine so ?_
  exact Kl [1, 2] hKL1 (n.data.length - (i + 1)) ⟨i + 1, rfl, by omega, hW, hp, rfl⟩ (by omega)
 refine so ?_
 refine Lp [1, 3] (fun L' w' mes => ∃ (i : Nat), L' = [(1, pt gs1 0), (3, iv (i : Int))] ∧ i ≤ n.batch.length ∧ IntW S w w' ∧ HP w S _ w' [itB gs1 38 _] ∧ n.batch.length - i = mes) (n.batch.length - 0) ⟨0, rfl, Nat.zero_le _, hW, hp, rfl⟩ ?_
 rintro _ wr2 _ ⟨i2, rfl, hi2, hW, hp, rfl⟩ KL2 hKL2
 refine so ?_
 refine Cd ?_ ?_<;>intro hc2
 ·refine so ?_
  obtain ⟨a, hA, hI, B, mB, cB, hsl, hmB, hB⟩ := (db.to hW) i2 (by omega)
  obtain ⟨v, hv⟩ := hI.ex
  refine wdP 12 hp (fun wD hp hED => by refine pm ?_; exact .op rfl (aLc2 (hED.cell hv (fun x => x)) (wl_nil qp)) (by refine pm ?_; exact .op rfl (wl_xor (by decide) rfl rfl rfl (wl_nil qp)) pl)) fun wD hp hED => ?_
  refine wl_storeI2 (((IntW.refl S wr2).ext hED).int _ _ hI) (h := fun w2 hw2 => ?_)
  have hW2 := ((IntW.refl S wr2).ext hED).trans hw2
  replace hW := hW.trans hW2
  replace hp := hp.int hgs hw2
  replace hsl := hW2.slc _ _ _ _ hsl
  replace hB := hB.to hW2
  refine so ?_
  refine Lp [1, 3, 4] (fun L' w' mes => ∃ (j : Nat), L' = [(1, pt gs1 0), (3, iv (i2 : Int)), (4, iv (j : Int))] ∧ j ≤ mB ∧ IntW S w2 w' ∧ HP w S _ w' [itB gs1 38 _] ∧ mB - j = mes) (mB - 0) ⟨0, rfl, Nat.zero_le _, IntW.refl S w2, hp, rfl⟩ ?_
  rintro _ wr3 _ ⟨j, rfl, hj, hW3, hp, rfl⟩ KL3 hKL3
  have hsl3 := hW3.slc _ _ _ _ hsl
  refine so ?_
  refine aLc2 hsl3 (so ?_)
  refine Cd ?_ ?_<;>intro hc3
  ·refine so ?_
   obtain ⟨aB, hAB, hIB⟩ := (hB.to hW3) j (by omega)
   obtain ⟨vB, hvB⟩ := hIB.ex
   refine wdP 18 hp (fun wD hp hED => by refine pm ?_; exact .op rfl (aLc2 (hED.cell hsl3 (fun x => x)) (wl_nil qp)) (by refine pm ?_; exact .op rfl (aLc2 (hED.cell hsl3 (fun x => x)) (wl_nil qp)) (by refine pm ?_; exact .op rfl (aLc (hED.cell hvB (fun x => x)) (wl_nil qp)) (by refine pm ?_; exact .op rfl (wl_xor (by decide) rfl rfl rfl (wl_nil qp)) pl)))) fun wD hp hED => ?_
   refine wl_storeI (((IntW.refl S wr3).ext hED).int _ _ hIB) (h := fun w4 hw4 => ?_)
   have hp := hp.int hgs hw4
   refine so ?_
   exact Kl [1, 3, 4] hKL3 (mB - (j + 1)) ⟨j + 1, rfl, by omega, (hW3.ext hED).trans hw4, hp, rfl⟩ (by omega)
  refine so ?_
  exact Kl [1, 3] hKL2 (n.batch.length - (i2 + 1)) ⟨i2 + 1, rfl, by omega, hW.trans hW3, hp, rfl⟩ (by omega)
 refine so ?_
 refine Lp [1, 5] (fun L' w' mes => ∃ (i : Nat), L' = [(1, pt gs1 0), (5, iv (i : Int))] ∧ i ≤ n.nodes.length ∧ IntW S w w' ∧ HP w S _ w' [itB gs1 38 _] ∧ n.nodes.length - i = mes) (n.nodes.length - 0) ⟨0, rfl, Nat.zero_le _, hW, hp, rfl⟩ ?_
 rintro _ wr4 _ ⟨i4, rfl, hi4, hW, hp, rfl⟩ KL4 hKL4
 refine so ?_
 refine Cd ?_ ?_<;>intro hc4
 ·obtain ⟨a, hA, hI⟩ := (dk.to hW) i4 (by omega)
  refine so ?_
  refine wl_storeI hI (h := fun w5 hw5 => ?_)
  have hp := hp.int hgs hw5
  refine so ?_
  exact Kl [1, 5] hKL4 (n.nodes.length - (i4 + 1)) ⟨i4 + 1, rfl, by omega, hW.trans hw5, hp, rfl⟩ (by omega)
 refine so ?_
 refine Lp [1, 6] (fun L' w' mes => ∃ (i : Nat), L' = [(1, pt gs1 0), (6, iv (i : Int))] ∧ i ≤ n.changes.length ∧ IntW S w w' ∧ HP w S _ w' [itB gs1 38 _] ∧ n.changes.length - i = mes) (n.changes.length - 0) ⟨0, rfl, Nat.zero_le _, hW, hp, rfl⟩ ?_
 rintro _ wr5 _ ⟨i5, rfl, hi5, hW, hp, rfl⟩ KL5 hKL5
 refine so ?_
 refine Cd ?_ ?_<;>intro hc5
 ·obtain ⟨a, hA, hI⟩ := (dg.to hW) i5 (by omega)
  refine so ?_
  refine wl_storeI2 hI (h := fun w6 hw6 => ?_)
  have hp := hp.int hgs hw6
  refine so ?_
  exact Kl [1, 6] hKL5 (n.changes.length - (i5 + 1)) ⟨i5 + 1, rfl, by omega, hW.trans hw6, hp, rfl⟩ (by omega)
 refine so ?_
 refine wk_post0 (.inr rfl) results18 ?_
 exact ⟨_, rfl, hW⟩
end Go.Proofs.YtkdoomglflikkaaGreat
namespace Go.Proofs.YtkdoomglflikkaaGreat
open Go.RowKit Go.Eng Go.Eng _root_.Go.Proofs.Tryz
set_option maxRecDepth 100000
variable {w0 w : World} {M0 Fz : Nat → Prop} {H : List It} {A : Option Addr} {c : Nat}
def chapL (k : Nat) : List Nte := (List.range k).map fun i : Nat => chapN ((i : Int) + 1)
theorem ones5 {S : Nat → Prop} {w : World} {cs : List Value} {n : Nte} (h : noteR.rd S w cs n) : ∀ u ∈ cs, u.oneCell' = true := by
 obtain ⟨_, _, _, _, _, _, _, _, _, _, _, _, _, _, _, _, _, _, _, _, _, _, _, rfl, _⟩ := h
 exact List.all_eq_true.1 rfl
end Go.Proofs.YtkdoomglflikkaaGreat
