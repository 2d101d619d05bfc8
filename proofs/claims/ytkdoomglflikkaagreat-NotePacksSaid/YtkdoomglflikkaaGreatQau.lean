/- What each of these functions computes, for every argument that its theorem names; a part of what the proof of NotePacks stands on. -/
import Derived.Test.YtkdoomglflikkaaGreatQac
import Derived.Test.YtkdoomglflikkaaGreatQad
import Derived.Test.YtkdoomglflikkaaGreatQae
import Derived.Test.YtkdoomglflikkaaGreatQag
import Derived.Test.YtkdoomglflikkaaGreatQah
import Derived.Test.YtkdoomglflikkaaGreatQaj
import Derived.Test.YtkdoomglflikkaaGreatQak
import Derived.Test.YtkdoomglflikkaaGreatQal
import Derived.Test.YtkdoomglflikkaaGreatQan
import Derived.Test.YtkdoomglflikkaaGreatQao
import Derived.Test.YtkdoomglflikkaaGreatQap
namespace Go.Proofs.YtkdoomglflikkaaGreat
open Go.RowKit Go.Eng Go.Eng _root_.Go.Proofs.Tryz
set_option maxRecDepth 100000
variable {w0 w : World} {M0 Fz : Nat → Prop} {H : List It} {A : Option Addr} {c : Nat}
set_option maxHeartbeats 40000000 in
theorem r12SameChange_ok {csa : List Value} {a : Chn} {Sa : Nat → Prop} {csb : List Value} {b : Chn} {Sb : Nat → Prop} (ha : changeR.rd Sa w csa a) (hb : changeR.rd Sb w csb b) : Ret prog 32 #[.agg csa.toArray, .agg csb.toArray] w (fun v w' => v = .bool (decide (a = b)) ∧ Ext w w') := by
 obtain ⟨hIa, Aa0, ca0, Aa1, ca1, Aa2, ca2, rfl, ha0, ha1, ha2⟩ := ha
 obtain ⟨hIb, Ab0, cb0, Ab1, cb1, Ab2, cb2, rfl, hb0, hb1, hb2⟩ := hb
 refine ret_of_wk func32 rfl ntmps32 leB_ ?_
 have hp:=HP.begin_ w
 refine so ?_
 refine Bx hp (h := fun gs2 w1 hp hE1 => ?_)
 refine Bx hp (h := fun gs3 w2 hp hE2 => so ?_)
 refine Gs 10 ?_ ?_<;>intro hg1<;>refine so ?_
 refine Gs 17 ?_ ?_<;>intro hg2<;>refine so ?_
 refine Gs 24 ?_ ?_<;>intro hg3<;>refine so ?_
 refine Cx hp (sameMarks_ok ha0.tn hb0.tn) fun w3 hp hE3 => so ?_
 refine Gs 31 ?_ ?_<;>intro hg4<;>refine so ?_
 refine Cx hp (sameStands_ok ha1.tn hb1.tn) fun w4 hp hE4 => so ?_
 refine Gs 38 ?_ ?_<;>intro hg5<;>refine so ?_
 refine Cx hp (sameStands_ok ha2.tn hb2.tn) fun w5 hp hE5 => so ?_
 refine Pt ?_
 exact ⟨_, rfl, congrArg Value.bool (decide_eq_decide.2 (by rw [Chn_eq]; simp_all)), hp.chg⟩
 refine Pt ?_
 exact ⟨_, rfl, bool_f (by rw [Chn_eq]; simp_all), hp.chg⟩
 refine Pt ?_
 exact ⟨_, rfl, bool_f (by rw [Chn_eq]; simp_all), hp.chg⟩
 refine Pt ?_
 exact ⟨_, rfl, bool_f (by rw [Chn_eq]; simp_all), hp.chg⟩
 refine Pt ?_
 exact ⟨_, rfl, bool_f (by rw [Chn_eq]; simp_all), hp.chg⟩
 refine Pt ?_
 exact ⟨_, rfl, bool_f (by rw [Chn_eq]; simp_all), hp.chg⟩
theorem t0_wSame_ok {p : Prop} (h : p := by rw [Wsh_eq]; (try rw [plain8_iff]); simp_all; try omega) : p := h
set_option maxHeartbeats 40000000 in
theorem wSame_ok {csa : List Value} {a : Wsh} {Sa : Nat → Prop} {csb : List Value} {b : Wsh} {Sb : Nat → Prop} (ha : wishR.rd Sa w csa a) (hb : wishR.rd Sb w csb b) : Ret prog 116 #[.agg csa.toArray, .agg csb.toArray] w (fun v w' => v = .bool (decide (a = b)) ∧ Ext w w') := by
 have qha:=ha
 obtain ⟨hIa, Aa0, ca0, Aa1, ca1, rfl, ha0, ha1⟩ := ha
 have qhb:=hb
 obtain ⟨hIb, Ab0, cb0, Ab1, cb1, rfl, hb0, hb1⟩ := hb
 refine ret_of_wk func116 rfl ntmps116 leB_ ?_
 have hp:=HP.begin_ w
 refine so ?_
 refine Bx hp (h := fun gs2 w1 hp hE1 => ?_)
 refine Bx hp (h := fun gs3 w2 hp hE2 => so ?_)
 refine Cx hp (bequal_ok ha0.tn hb0.tn) fun w3 hp hE3 => so ?_
 refine Gs 12 ?_ ?_<;>intro hg1<;>refine so ?_
 refine aT (so ?_)
 refine Pt ?_
 exact ⟨_, rfl, bool_f t0_wSame_ok, hp.chg⟩
 refine Cx hp (seqI_ok ha1.tn hb1.tn) fun w4 hp hE4 => so ?_
 refine Cd ?_ ?_<;>intro hc2<;>refine so ?_
 refine Pt ?_
 exact ⟨_, rfl, bool_f t0_wSame_ok, hp.chg⟩
 apply wdL [.eq _,.eq _,.eq _,.eq _,.eq _,.eq _,.eq _,.eq _]
 refine ⟨?_,?_,?_,?_,?_,?_,?_,?_,trivial⟩<;>intro F wF hER hk
 exact dm (hk.qi 5)
 exact Hx_ ([iv a.client, iv a.stamp, iv a.group, iv a.epoch, iv a.kind, iv a.block, .slice Aa0 a.data.length ca0, iv a.old, iv a.new, .slice Aa1 a.next.length ca1]) 1 ag68 (hk.qi 2) (hp.ext hER) rfl rfl rfl qz
 have e20:=hk.qe 0
 have e21:=hk.qe 1
 have hcl:=wsame1_ok (rdTn qha (w' := wF))
 refine wl_callv (f := 139) (first := []) (cap := []) (vs := [_]) (by decide) cl139 e20 (by simp only [evs, ev, e21]; first | done | rfl) hcl ?_
 clear hcl
 rintro _ w7 ⟨rfl, hE7⟩
 exact qz ⟨hE7, rfl⟩
 exact dm (hk.qi 5)
 exact Hx_ ([iv b.client, iv b.stamp, iv b.group, iv b.epoch, iv b.kind, iv b.block, .slice Ab0 b.data.length cb0, iv b.old, iv b.new, .slice Ab1 b.next.length cb1]) 0 ag68 (hk.qi 3) (hp.ext hER) rfl rfl rfl qz
 have e23:=hk.qe 3
 have e24:=hk.qe 4
 have hcl:=wsame1_ok (rdTn qhb (w' := wF))
 refine wl_callv (f := 139) (first := []) (cap := []) (vs := [_]) (by decide) cl139 e23 (by simp only [evs, ev, e24]; first | done | rfl) hcl ?_
 clear hcl
 rintro _ w7 ⟨rfl, hE7⟩
 exact qz ⟨hE7, rfl⟩
 have e22:=hk.qe 2
 have e25:=hk.qe 5
 exact wl_eqlK (m := 6) ((plain8 a) = (plain8 b)) (by decide) key175 eg175 e22 e25 hIa.fit hIb.fit plain8_inj qz
 exact wl_assign (by decide) (hk.qe 6) qz
 intro F wD hED hini hdo
 refine wk_drop [(4, _)] ⟨dq hdo 7, trivial⟩ ?_
 clear hini hdo
 replace hp:=hp.ext hED
 refine so ?_
 refine Pt ?_
 exact ⟨_, rfl, congrArg Value.bool (decide_eq_decide.2 t0_wSame_ok), hp.chg⟩
set_option maxHeartbeats 40000000 in
theorem rBatchMay_ok {Al : Option Addr} {cl : Nat} {l : List Wsh} {Sl : Nat → Prop} {csn : List Value} {n : Nte} {Sn : Nat → Prop} (hl : GS wishR Sl w Al cl l) (hn : noteR.rd Sn w csn n) : Ret prog 90 #[.slice Al l.length cl, .agg csn.toArray] w (fun v w' => v = .bool (decide (BatchMay l n.group n.epoch)) ∧ Ext w w') := by
 obtain ⟨hIn, An0, cn0, An1, cn1, An2, cn2, An3, cn3, An4, cn4, An5, cn5, An6, cn6, An7, cn7, An8, cn8, An9, cn9, An10, cn10, rfl, hn0, hn1, hn2, hn3, hn4, hn5, hn6, hn7, hn8, hn9, hn10⟩ := hn
 refine ret_of_wk func90 rfl ntmps90 leB_ ?_
 have hp:=HP.begin_ w
 refine so ?_
 refine Bx hp (h := fun gs3 w1 hp hE1 => so ?_)
 refine Cd ?_ ?_<;>intro hc1<;>refine so ?_
 refine Pt ?_
 exact ⟨_, rfl, bool_f (fun h => by have := h.1; omega), hp.chg⟩
 refine Lp [0, 3, 5] (fun L' w' mes => ∃ (k : Nat), L' = [(0, .slice Al l.length cl), (3, pt gs3 0), (5, iv (k : Int))] ∧ (k ≤ l.length) ∧ (∀ x ∈ l.take k, BM n.group n.epoch x) ∧ (l.length ≤ 4) ∧ Ext w1 w' ∧ l.length - k = mes) (l.length - 0) (by
     refine ⟨0, rfl, ?_, ?_, ?_, me, rfl⟩
     omega
     simp
     omega) ?_
 rintro _ wr _ ⟨k, rfl, hk, hall, hl4, hEq0, rfl⟩ KL1 hKL1
 replace hp:=hp.ext hEq0
 refine so ?_
 refine Cd ?_ ?_<;>intro hc2<;>refine so ?_
 by_cases hs3 : (if WishMay (l.getD k wish0) then 0 else 2) ≠ 0
 obtain ⟨aw2, pw2_0, qw2_0, pw2_1, qw2_1, hAw2, hatw2, hIw2, hw2_0, hw2_1⟩ := wishR_el (hl.tn (w' := wr)) k (by omega)
 refine wdP 26 hp (fun wD hp hED => by refine pm ?_; exact PLe (r11Check_ok ⟨hIw2, _, _, _, _, rfl, hw2_0.to, hw2_1.to⟩) (h := pl)) fun wD hp hED => ?_
 refine so ?_
 refine aT (so ?_)
 refine Pt ?_
 exact ⟨_, rfl, bool_f (fun h => by have := h.2 _ (getD_mem (z := wish0) (by omega : k < l.length)); unfold BM at this; simp_all), hp.chg⟩
 by_cases hs4 : (l.getD k wish0).group ≠ n.group
 obtain ⟨aw2, pw2_0, qw2_0, pw2_1, qw2_1, hAw2, hatw2, hIw2, hw2_0, hw2_1⟩ := wishR_el (hl.tn (w' := wr)) k (by omega)
 refine wdP 26 hp (fun wD hp hED => by refine pm ?_; exact PLe (r11Check_ok ⟨hIw2, _, _, _, _, rfl, hw2_0.to, hw2_1.to⟩) (h := pl)) fun wD hp hED => ?_
 refine so ?_
 refine aT (so ?_)
 refine Pt ?_
 exact ⟨_, rfl, bool_f (fun h => by have := h.2 _ (getD_mem (z := wish0) (by omega : k < l.length)); unfold BM at this; simp_all), hp.chg⟩
 obtain ⟨aw2, pw2_0, qw2_0, pw2_1, qw2_1, hAw2, hatw2, hIw2, hw2_0, hw2_1⟩ := wishR_el (hl.tn (w' := wr)) k (by omega)
 refine wdP 26 hp (fun wD hp hED => by refine pm ?_; exact PLe (r11Check_ok ⟨hIw2, _, _, _, _, rfl, hw2_0.to, hw2_1.to⟩) (h := pl)) fun wD hp hED => ?_
 refine so ?_
 refine Cd ?_ ?_<;>intro hc5<;>refine so ?_
 refine Pt ?_
 exact ⟨_, rfl, bool_f (fun h => by have := h.2 _ (getD_mem (z := wish0) (by omega : k < l.length)); unfold BM at this; simp_all), hp.chg⟩
 refine Kl [0, 3, 5] hKL1 (l.length - (k + 1)) ⟨(k + 1), rfl, by omega, ?_, hl4, me, rfl⟩ (by omega)
 exact forall_take (z := wish0) hall (by omega) (by unfold BM; simp_all)
 refine Pt ?_
 exact ⟨_, rfl, bool_t ⟨hl4, fun x hx => hall x (by rw [show k = l.length by omega, List.take_length]; exact hx)⟩, hp.chg⟩
set_option maxHeartbeats 40000000 in
theorem gListS_ok {gw : Nat} {out : List UInt8} {pa : Addr} {B : Option Addr} {d : Nat} {l : List Stn} {E : Stn → List UInt8} {ok : Stn → Prop} {FV : Value} {most : Int} (hp : HP w0 M0 Fz w (itB gw 89 [.slice A out.length c] :: itR 5 1 A out.length c (out.map bv) :: H)) (hat : AtF Fz w pa [.slice B l.length d]) (hl : GS standR Fz w B d l) (hok : ∀ x ∈ l, ok x) (hE : EachW prog 5 89 gw w0 M0 Fz w standR E ok FV) (hnl : isNum (l.length : Int)) (hlen : out.length + (listE E l).length ≤ 1000000) : Ret prog 97 #[.iface 87 (.pointer (some ⟨gw, 0, none⟩)), .pointer (some pa), .int .i64 most, FV] w (WrP 5 89 gw w0 M0 Fz w H (out ++ listE E l)) := by
 have hnl2:=hnl
 unfold isNum at hnl2
 refine ret_of_wk func97 rfl ntmps97 leB_ ?_
 refine so ?_
 refine wP 9 hp (h := fun wD hp hED => ?_)
 refine Ci rfl (gMany_ok (v9 := iv most) hp hnl (by simp only [listE, List.length_append] at hlen ⊢; omega)) ?_
 rintro _ w1 ⟨rfl, A1, c1, hp, hF1⟩
 refine so ?_
 refine Lp [1, 3, 21, 22] (fun L' w' mes => ∃ (k : Nat), ∃ (A2 : Option Addr), ∃ (c2 : Nat), L' = [(1, .pointer (some pa)), (3, FV), (21, iv (l.length : Int)), (22, iv (k : Int))] ∧ (k ≤ l.length) ∧ (Frz Fz Fz w w') ∧ (AtF Fz w' pa [.slice B l.length d]) ∧ (GS standR Fz w' B d l) ∧ (HP w0 M0 Fz w' (itB gw 89 [.slice A2 (out ++ numE (l.length : Int) ++ flatE E (l.take k)).length c2] :: itR 5 1 A2 (out ++ numE (l.length : Int) ++ flatE E (l.take k)).length c2 ((out ++ numE (l.length : Int) ++ flatE E (l.take k)).map bv) :: H)) ∧ l.length - k = mes) (l.length - 0) (by
     refine ⟨0, A1, c1, rfl, Nat.zero_le _, mv, hat.to, hl.to, ?_, rfl⟩
     simp only [List.take_zero, flatE_nil, List.append_nil]; exact hp) ?_
 rintro _ wr _ ⟨k, A2, c2, rfl, hk, hFr, hat, hl, hp, rfl⟩ KL1 hKL1
 refine so ?_
 refine Cd ?_ ?_<;>intro hc1
 have hk9 : k < l.length := by omega
 refine so ?_
 refine aF (so ?_)
 obtain ⟨ax, csx, hax, hatx, hrdx⟩ := hl.el k hk9
 refine wl_idx0 (size := 34) (by decide) sl31 rfl rfl hax k rfl hk9 ?_
 have hcl:=hE _ _ _ _ _ _ _ _ hFr hp hatx hrdx (hok _ (List.getElem_mem hk9)) (flat_room (_out := l) hk9 hlen)
 refine wl_callF (vs := [.pointer (some (ax.add (k * 34)))]) (by decide) rfl rfl (fun _ h => by cases h) hcl ?_
 clear hcl
 rintro _ w9 ⟨A9, c9, hp, hF9⟩
 refine so ?_
 refine Kl [1, 3, 21, 22] hKL1 (l.length - (k + 1)) ⟨(k + 1), A9, c9, rfl, by omega, mv, hat.to, hl.to, ?_, rfl⟩ (by omega)
 rw [flat_take E l k hk9, ← List.append_assoc]; exact hp
 refine so ?_
 refine wk_post0 (.inr rfl) results97  ?_
 have hkl : k = l.length := by omega
 rw [hkl, List.take_length, List.append_assoc] at hp
 exact ⟨_, rfl, _, _, hp, hFr⟩
set_option maxHeartbeats 40000000 in
theorem gListC_ok {gw : Nat} {out : List UInt8} {pa : Addr} {B : Option Addr} {d : Nat} {l : List Chn} {E : Chn → List UInt8} {ok : Chn → Prop} {FV : Value} {most : Int} (hp : HP w0 M0 Fz w (itB gw 89 [.slice A out.length c] :: itR 5 1 A out.length c (out.map bv) :: H)) (hat : AtF Fz w pa [.slice B l.length d]) (hl : GS changeR Fz w B d l) (hok : ∀ x ∈ l, ok x) (hE : EachW prog 5 89 gw w0 M0 Fz w changeR E ok FV) (hnl : isNum (l.length : Int)) (hlen : out.length + (listE E l).length ≤ 1000000) : Ret prog 109 #[.iface 87 (.pointer (some ⟨gw, 0, none⟩)), .pointer (some pa), .int .i64 most, FV] w (WrP 5 89 gw w0 M0 Fz w H (out ++ listE E l)) := by
 have hnl2:=hnl
 unfold isNum at hnl2
 refine ret_of_wk func109 rfl ntmps109 leB_ ?_
 refine so ?_
 refine wP 9 hp (h := fun wD hp hED => ?_)
 refine Ci rfl (gMany_ok (v9 := iv most) hp hnl (by simp only [listE, List.length_append] at hlen ⊢; omega)) ?_
 rintro _ w1 ⟨rfl, A1, c1, hp, hF1⟩
 refine so ?_
 refine Lp [1, 3, 21, 22] (fun L' w' mes => ∃ (k : Nat), ∃ (A2 : Option Addr), ∃ (c2 : Nat), L' = [(1, .pointer (some pa)), (3, FV), (21, iv (l.length : Int)), (22, iv (k : Int))] ∧ (k ≤ l.length) ∧ (Frz Fz Fz w w') ∧ (AtF Fz w' pa [.slice B l.length d]) ∧ (GS changeR Fz w' B d l) ∧ (HP w0 M0 Fz w' (itB gw 89 [.slice A2 (out ++ numE (l.length : Int) ++ flatE E (l.take k)).length c2] :: itR 5 1 A2 (out ++ numE (l.length : Int) ++ flatE E (l.take k)).length c2 ((out ++ numE (l.length : Int) ++ flatE E (l.take k)).map bv) :: H)) ∧ l.length - k = mes) (l.length - 0) (by
     refine ⟨0, A1, c1, rfl, Nat.zero_le _, mv, hat.to, hl.to, ?_, rfl⟩
     simp only [List.take_zero, flatE_nil, List.append_nil]; exact hp) ?_
 rintro _ wr _ ⟨k, A2, c2, rfl, hk, hFr, hat, hl, hp, rfl⟩ KL1 hKL1
 refine so ?_
 refine Cd ?_ ?_<;>intro hc1
 have hk9 : k < l.length := by omega
 refine so ?_
 refine aF (so ?_)
 obtain ⟨ax, csx, hax, hatx, hrdx⟩ := hl.el k hk9
 refine wl_idx0 (size := 6) (by decide) sl34 rfl rfl hax k rfl hk9 ?_
 have hcl:=hE _ _ _ _ _ _ _ _ hFr hp hatx hrdx (hok _ (List.getElem_mem hk9)) (flat_room (_out := l) hk9 hlen)
 refine wl_callF (vs := [.pointer (some (ax.add (k * 6)))]) (by decide) rfl rfl (fun _ h => by cases h) hcl ?_
 clear hcl
 rintro _ w9 ⟨A9, c9, hp, hF9⟩
 refine so ?_
 refine Kl [1, 3, 21, 22] hKL1 (l.length - (k + 1)) ⟨(k + 1), A9, c9, rfl, by omega, mv, hat.to, hl.to, ?_, rfl⟩ (by omega)
 rw [flat_take E l k hk9, ← List.append_assoc]; exact hp
 refine so ?_
 refine wk_post0 (.inr rfl) results109  ?_
 have hkl : k = l.length := by omega
 rw [hkl, List.take_length, List.append_assoc] at hp
 exact ⟨_, rfl, _, _, hp, hFr⟩
set_option maxHeartbeats 40000000 in
theorem wBytes_ok {csx : List Value} {x : Wsh} {Sx : Nat → Prop} (hx : wishR.rd Sx w csx x) (hm : WishMay x) : Ret prog 183 #[.agg csx.toArray] w (fun v w' => ∃ A' c', v = .tuple #[.slice A' (wishE x).length c', .int .i64 0] ∧ OwnB 5 w.heap.size w' A' c' (wishE x) ∧ Ext w w') := by
 have qhx:=hx
 obtain ⟨hIx, Ax0, cx0, Ax1, cx1, rfl, hx0, hx1⟩ := hx
 obtain ⟨⟨q0, q1, q2, q3, q4, q5, q6, q7, q8, q9⟩, hwl⟩ := wish_fine hm
 have hss : strS x.data = (strE x.data, 0) := str_good (by omega)
 have hnl : isNum (x.next.length : Int) := by have := q9.1; unfold isNum; omega
 have hok6 : ∀ y ∈ [x.kind, x.client, x.stamp, x.group, x.epoch, x.block], isNum y := by
   intro y hy
   simp only [List.mem_cons, List.not_mem_nil, or_false] at hy
   rcases hy with rfl | rfl | rfl | rfl | rfl | rfl <;> assumption
 have hok3 : ∀ y ∈ [x.old, x.new, (x.next.length : Int)], isNum y := by
   intro y hy
   simp only [List.mem_cons, List.not_mem_nil, or_false] at hy
   rcases hy with rfl | rfl | rfl <;> assumption
 have hokn : ∀ y ∈ x.next, isNum y := q9.2
 have hn7:=q9.1
 refine ret_of_wk func183 rfl ntmps183 leB_ ?_
 have hp:=HP.begin_ w
 refine so ?_
 refine Bx hp (h := fun gs1 w1 hp hE1 => ?_)
 replace hp:=hp.ay (itB gs1 68 ([iv x.client, iv x.stamp, iv x.group, iv x.epoch, iv x.kind, iv x.block, .slice Ax0 x.data.length cx0, iv x.old, iv x.new, .slice Ax1 x.next.length cx1]) :: _)
 refine so ?_
 refine Cx hp (wCheck_ok (w0 := x) (rdTn qhx)) fun w2 hp hE2 => so ?_
 refine Cd ?_ ?_<;>intro hc<;>refine so ?_
 exact absurd hc (by simp [hm])
 refine Ce (str_ok hx0.tn) ?_
 rintro _ w3 ⟨A3, c3, rfl, ho3, hE3⟩
 replace ho3:=ho3.bs
 have hsz4:=hp.chg.size
 obtain ⟨Fz4, hp4, hsub4, hnew4, hup4⟩ := hp.frz hE3
 replace hp:=hp4
 replace ho3:=ho3.frz hnew4
 refine so ?_
 refine Cd ?_ ?_<;>intro hc2<;>refine so ?_
 exact absurd (by rw [hss]) hc2
 have hdat:=ho3
 have hnx:=(hx1.tn (w' := w3))
 apply wdL [SP.eq _, SP.eq _, SP.eq _, SP.eq _, SP.eq _, SP.eq _, SP.eq _, SP.eq _, SP.eq _, SP.eq _, SP.eq _, SP.eq _, SP.gs intR (fun _ => True) [x.kind, x.client, x.stamp, x.group, x.epoch, x.block], SP.gs byteR (fun _ => True) (flatE numE [x.kind, x.client, x.stamp, x.group, x.epoch, x.block]), SP.gs byteR (fun _ => True) (strE x.data), SP.eq _, SP.eq _, SP.eq _, SP.eq _, SP.eq _, SP.eq _, SP.eq _, SP.gs intR (fun _ => True) [x.old, x.new, (x.next.length : Int)], SP.gs byteR (fun _ => True) (flatE numE [x.old, x.new, (x.next.length : Int)]), SP.eq _, SP.eq _, SP.gs byteR (fun _ => True) (flatE numE x.next), SP.gs (sliceR byteR) (fun _ => True) [flatE numE [x.kind, x.client, x.stamp, x.group, x.epoch, x.block], strE x.data, flatE numE [x.old, x.new, (x.next.length : Int)], flatE numE x.next], SP.own 5 1 w.heap.size (wishE x).length ((wishE x).map bv), SP.own 5 1 w.heap.size (wishE x).length ((wishE x).map bv), SP.eq _]
 refine ⟨?_,?_,?_,?_,?_,?_,?_,?_,?_,?_,?_,?_,?_,?_,?_,?_,?_,?_,?_,?_,?_,?_,?_,?_,?_,?_,?_,?_,?_,?_,?_,trivial⟩<;>intro F wF hER hk
 exact Fd_ 4 fld68_4 (hk.pi 1) rfl qz
 exact Hl_ 0 sc3 (hk.pe 0) (hp.ext hER) rfl rfl qz
 exact Fd_ 0 fld68_0 (hk.pi 1) rfl qz
 exact Hl_ 0 sc3 (hk.pe 2) (hp.ext hER) rfl rfl qz
 exact Fd_ 1 fld68_1 (hk.pi 1) rfl qz
 exact Hl_ 0 sc3 (hk.pe 4) (hp.ext hER) rfl rfl qz
 exact Fd_ 2 fld68_2 (hk.pi 1) rfl qz
 exact Hl_ 0 sc3 (hk.pe 6) (hp.ext hER) rfl rfl qz
 exact Fd_ 3 fld68_3 (hk.pi 1) rfl qz
 exact Hl_ 0 sc3 (hk.pe 8) (hp.ext hER) rfl rfl qz
 exact Fd_ 5 fld68_5 (hk.pi 1) rfl qz
 exact Hl_ 0 sc3 (hk.pe 10) (hp.ext hER) rfl rfl qz
 have e22:=hk.pe 1
 have e24:=hk.pe 3
 have e26:=hk.pe 5
 have e28:=hk.pe 7
 have e30:=hk.pe 9
 have e32:=hk.pe 11
 refine wl_bsliceI (xs := [.tmp 22, .tmp 24, .tmp 26, .tmp 28, .tmp 30, .tmp 32]) (l := [x.kind, x.client, x.stamp, x.group, x.epoch, x.block]) (by decide) sl27 rfl (by simp only [evs, ev, e22, e24, e26, e28, e30, e32]; rfl) rfl (by simp) ?_
 intro g7 w7 hg7 hE7
 exact qz ⟨hE7, _, _, rfl, hg7⟩
 obtain ⟨u33, e33, h33⟩:=hk.pp 12
 obtain ⟨A33, c33, rfl, h33⟩ := h33
 have hcl:=nums_ok h33 hok6 (by first | exact leB_ | omega)
 refine Cl_ cl182 (by simp only [evs, ev, e33]; first | done | rfl) hcl ?_
 clear hcl
 rintro _ w7 ⟨A7, c7, rfl, ho7, hE7⟩
 exact qz ⟨hE7, _, _, rfl, ho7.bs.mono (fun _ _ _ => trivial)⟩
 have e5:=hk.pi 5
 have h9:=(hdat.ext hER).mono (S' := fun _ => True) (fun _ _ _ => trivial)
 rw [hss] at h9
 refine Mv_ e5 ?_
 rw [hss]
 exact qz ⟨Chg.refl _ _, _, _, rfl, h9⟩
 exact Fd_ 7 fld68_7 (hk.pi 1) rfl qz
 exact Hl_ 0 sc3 (hk.pe 15) (hp.ext hER) rfl rfl qz
 exact Fd_ 8 fld68_8 (hk.pi 1) rfl qz
 exact Hl_ 0 sc3 (hk.pe 17) (hp.ext hER) rfl rfl qz
 exact Fd_ 9 fld68_9 (hk.pi 1) rfl qz
 exact Hl_ 0 sc27 (hk.pe 19) (hp.ext hER) rfl rfl qz
 exact Ln_ underlying27 (hk.pe 20) qz
 have e37:=hk.pe 16
 have e39:=hk.pe 18
 have e42:=hk.pe 21
 refine wl_bsliceI (xs := [.tmp 37, .tmp 39, .tmp 42]) (l := [x.old, x.new, (x.next.length : Int)]) (by decide) sl27 rfl (by simp only [evs, ev, e37, e39, e42]; rfl) rfl (by simp) ?_
 intro g7 w7 hg7 hE7
 exact qz ⟨hE7, _, _, rfl, hg7⟩
 obtain ⟨u43, e43, h43⟩:=hk.pp 22
 obtain ⟨A43, c43, rfl, h43⟩ := h43
 have hcl:=nums_ok h43 hok3 (by first | exact leB_ | omega)
 refine Cl_ cl182 (by simp only [evs, ev, e43]; first | done | rfl) hcl ?_
 clear hcl
 rintro _ w7 ⟨A7, c7, rfl, ho7, hE7⟩
 exact qz ⟨hE7, _, _, rfl, ho7.bs.mono (fun _ _ _ => trivial)⟩
 exact Fd_ 9 fld68_9 (hk.pi 1) rfl qz
 exact Hl_ 0 sc27 (hk.pe 24) (hp.ext hER) rfl rfl qz
 have e46:=hk.pe 25
 have hcl:=nums_ok (hnx.ext hER) hokn (by first | exact leB_ | omega)
 refine Cl_ cl182 (by simp only [evs, ev, e46]; first | done | rfl) hcl ?_
 clear hcl
 rintro _ w7 ⟨A7, c7, rfl, ho7, hE7⟩
 exact qz ⟨hE7, _, _, rfl, ho7.bs.mono (fun _ _ _ => trivial)⟩
 obtain ⟨u34, e34, h34⟩:=hk.pp 13
 obtain ⟨A34, c34, rfl, h34⟩ := h34
 obtain ⟨u35, e35, h35⟩:=hk.pp 14
 obtain ⟨A35, c35, rfl, h35⟩ := h35
 obtain ⟨u44, e44, h44⟩:=hk.pp 23
 obtain ⟨A44, c44, rfl, h44⟩ := h44
 obtain ⟨u47, e47, h47⟩:=hk.pp 26
 obtain ⟨A47, c47, rfl, h47⟩ := h47
 refine wl_bsliceS (r := byteR) (xs := [.tmp 34, .tmp 35, .tmp 44, .tmp 47]) (ls := [flatE numE [x.kind, x.client, x.stamp, x.group, x.epoch, x.block], strE x.data, flatE numE [x.old, x.new, (x.next.length : Int)], flatE numE x.next]) (by decide) sl187 rfl (by simp only [evs, ev, e34, e35, e44, e47]; first | done | rfl) rfl (by decide) (SlicesOf.cons h34 (SlicesOf.cons h35 (SlicesOf.cons h44 (SlicesOf.cons h47 SlicesOf.nil)))) ?_
 intro g7 w7 hg7 hE7
 exact qz ⟨hE7, _, _, rfl, hg7⟩
 obtain ⟨u48, e48, h48⟩:=hk.pp 27
 obtain ⟨A48, c48, rfl, h48⟩ := h48
 have hcl:=join_ok h48 (by rw [wish_parts]; omega)
 refine Cl_ cl184 (by simp only [evs, ev, e48]; first | done | rfl) hcl ?_
 clear hcl
 rintro _ w7 ⟨A7, c7, rfl, ho7, hE7⟩
 rw [wish_parts] at ho7 ⊢
 exact qz ⟨hE7, _, _, rfl, ho7.lower (Nat.le_trans hp.chg.size hER.size)⟩
 obtain ⟨u49, e49, h49⟩:=hk.pp 28
 obtain ⟨A49, c49, rfl, h49⟩ := h49
 refine wl_assign (by decide) e49 ?_
 exact qz ⟨Chg.refl _ _, _, _, rfl, h49⟩
 exact wl_assign (by decide) rfl qz
 intro F wD hED hini hdo
 obtain ⟨u2, e2, h2⟩ := hdo 29 2 rfl
 obtain ⟨A2, c2, rfl, h2⟩ := h2
 refine wk_drop [(2, _), (3, _)] ⟨e2, dq hdo 30, trivial⟩ ?_
 clear e2 hini hdo
 replace hp:=hp.ext hED
 refine so ?_
 refine P2 results183 ?_
 exact ⟨_, rfl, A2, c2, rfl, h2, hp.chg⟩
set_option maxHeartbeats 40000000 in
theorem rListS_ok {gr : Nat} {l : List UInt8} {bad : Bool} {X : List Value → It} {pX : Addr} {most : Int} {p : PR Stn} {FV : Value} (hp : HP w0 M0 Fz w (itB gr 103 [.slice A l.length c, .bool bad] :: X ([.slice none 0 0]) :: H)) (hS : Slot X pX 1) (hl : GS byteR Fz w A c l) (hE : EachR prog 103 gr w0 M0 Fz w standR ([Value.int .i64 0] ++ (digC dig0 ++ ([Value.int .i64 0]))) p FV) (hm : most ≤ 100) : Ret prog 97 #[.iface 101 (.pointer (some ⟨gr, 0, none⟩)), .pointer (some pX), .int .i64 most, FV] w (RdP 103 gr w0 M0 Fz w H X (sliceR standR) (listP p most) bad l) := by
 refine ret_of_wk func97 rfl ntmps97 leB_ ?_
 refine so ?_
 refine wdP 9 hp (fun wD hp hED => by refine pm ?_; exact .op rfl (Ld_ sc31 rfl (hp.slotAt (i := 1) hS rfl rfl).head (wl_nil qp)) pl) fun wD hp hED => ?_
 refine Ci rfl (nMany_ok (m0 := 0) (most := most) hp hl.to) ?_
 rintro _ w1 ⟨F1, A1, c1, l1, b1, x1, rfl, hp, hF1, hl1, hst1, hz1⟩
 have hML : ∀ q : Int, 0 ≤ q → q < x1 → x1 ≤ most := by
   intro q h0 h1
   cases hq : b1 with
   | false => exact (many_lim hst1 hq).2
   | true => have := hz1 hq; omega
 refine so ?_
 refine Lp [1, 3, 21, 22] (fun L' w' mes => ∃ (k : Nat), ∃ (F1 : Nat → Prop), ∃ (A2 : Option Addr), ∃ (c2 : Nat), ∃ (l2 : List UInt8), ∃ (b2 : Bool), ∃ (AL : Option Addr), ∃ (cL : Nat), ∃ (xs : List Stn), ∃ (rows : List (List Value)), L' = [(1, .pointer (some pX)), (3, FV), (21, iv x1), (22, iv (k : Int))] ∧ (k ≤ x1.toNat) ∧ (xs.length = k) ∧ (RF standR F1 w' rows xs) ∧ (Frz Fz F1 w w') ∧ (GS byteR F1 w' A2 c2 l2) ∧ (StepP (repP p k) (rst b1 l1) (rst b2 l2) xs) ∧ (HP w0 M0 F1 w' (itB gr 103 [.slice A2 l2.length c2, .bool b2] :: X ([.slice AL xs.length cL]) :: itR 97 34 AL xs.length cL rows.flatten :: H)) ∧ x1.toNat - k = mes) (x1.toNat - 0) (by
     refine ⟨0, F1, A1, c1, l1, b1, none, 0, [], [], rfl, Nat.zero_le _, ?_, RF.nil _ _ _, mv, hl1, StepP.pure _ _, ((hp.noRow 97 34).as_ (H' := _ :: _ :: _ :: _) rfl).rot3, rfl⟩
     rfl) ?_
 rintro _ wr _ ⟨k, F1, A2, c2, l2, b2, AL, cL, xs, rows, rfl, hk, hxk, hRF, hFr, hl2, hstL, hp, rfl⟩ KL1 hKL1
 refine so ?_
 refine Cd ?_ ?_<;>intro hc1
 have hx9:=hML k (by omega) (by omega)
 refine so ?_
 refine Ld_ sc31 rfl (hp.slotAt (i := 1) hS rfl rfl).head (so ?_)
 refine aT (so ?_)
 refine Alo hp (h := fun gs10 w2 hp hE2 => ?_)
 replace hp:=hp.ay (itB gs10 97 ([iv stand0.seq] ++ (digC stand0.dig ++ ([iv stand0.view]))) :: _)
 refine so ?_
 obtain ⟨KM, ⟨hRo, hRk⟩, hKF, hKlt, hpo, hup⟩ := hp.apart (i := 3) rfl
 apply wc_drawTM 7 6 KM [.eq _,.eq _,.eq _,.eq _,.eq _,SP.tmpR _ 97 34 1 ([Value.int .i64 0] ++ (digC dig0 ++ ([Value.int .i64 0]))),SP.turn KM _ 97 34 (xs.length + 1) (rows.flatten ++ ([Value.int .i64 0] ++ (digC dig0 ++ ([Value.int .i64 0]))))] (by kernel_rfl) (by kernel_rfl) ⟨.inr (fun _ _ _ _ h => h),.inr (fun _ _ _ _ h => h),.inr (fun _ _ _ _ h => h),.inr (fun _ _ _ _ h => h),.inr (fun _ _ _ _ h => h),.inr (SP.tmpR_st hKlt),.inl rfl,trivial⟩
 refine ⟨?_,?_,?_,?_,?_,?_,?_,trivial⟩<;>intro F wF hER hEE hk
 exact dm (hk.qi 1)
 exact dm (hk.qi 1)
 exact Nc_ (hk.qe 1) qz
 exact Ld_ sc31 (hk.qe 2) ((hpo _ hER).slotAt (i := 2) hS rfl rfl).head qz
 exact Hx_ ([iv stand0.seq] ++ (digC stand0.dig ++ ([iv stand0.view]))) 0 ag97 (hk.qi 10) (hpo _ hER) rfl rfl rfl qz
 have e35:=hk.qe 4
 refine wl_bslice (size := 34) (xs := [.tmp 35]) (vs := [.agg ([Value.int .i64 0] ++ (digC dig0 ++ ([Value.int .i64 0]))).toArray]) (by decide) sl31 rfl (by simp only [evs, ev, e35]; first | done | rfl) rfl (by intro v hv; rw [List.mem_singleton.1 hv]; rfl) leB_ 0 (Nat.zero_le _) ?_
 rintro gt wt hgt hot hEt
 exact qz ⟨hEt, gt, rfl, by rw [hgt]; exact hER.size, hot⟩
 have hEx:=hEE rfl
 have e34:=hk.qe 3
 obtain ⟨u36, e36, h36⟩:=hk.qp 5
 obtain ⟨gt, rfl, hgt0, hot⟩ := h36
 refine wl_append (size := 34) (m := 1) (news := [Value.int .i64 0] ++ (digC dig0 ++ ([Value.int .i64 0]))) (by decide) sl31 e34 e36 (hRo.ext hEx) rfl (fun b hb => by cases hb; exact hot.at0) (by simp) (List.all_eq_true.1 rfl) (by omega) (Nat.zero_le _) ?_
 rintro A3 c3 w3 ho3 hch3 h43
 exact qz ⟨hch3.weak (fun b _ x => (hRk b).2 ⟨x.1, x.2.2⟩), A3, c3, rfl, ho3, fun b hb => (by
     rcases h43 with ⟨rfl, rfl⟩ | rfl
     · exact .inl ((hRk b).2 hb)
     · obtain ⟨_, a, ha, rfl⟩ := hb
       cases ha
       exact .inr hEx.size)⟩
 intro F wD hED hini hdo
 have e1:=di hini 1
 have e3:=di hini 3
 have e9:=di hini 9
 have e21:=di hini 21
 have e22:=di hini 22
 have e31:=dr hdo 0
 obtain ⟨u37, e37, h37⟩ := hdo 6 37 (Nat.lt_of_lt_of_eq (by decide) rfl) rfl
 obtain ⟨A3, c3, rfl, ho3, hK3⟩ := h37
 refine wl_drop [(1, _), (3, _), (9, _), (21, _), (22, _), (31, _), (37, _)] ⟨e1, e3, e9, e21, e22, e31, e37, trivial⟩ ?_
 clear e1 e3 e9 e21 e22 e31 e37 hini hdo
 have hcz:=hED.zz hKF
 replace hp:=hup _ (itR 97 34 A3 (xs.length + 1) c3 (rows.flatten ++ ([Value.int .i64 0] ++ (digC dig0 ++ ([Value.int .i64 0]))))) (fun b => c3 ≠ 0 ∧ blk A3 b) hED ⟨ho3, fun _ => Iff.rfl⟩ hK3
 refine so ?_
 refine wl_sstore1 0 (i := 2) hS (by rw [add_zero']; rfl) rfl hp rfl rfl sz31 (by decide) rfl ?_
 rintro w3 hp hC3
 refine so ?_
 refine Ld_ sc31 rfl (hp.slotAt (i := 2) hS rfl rfl).head (so ?_)
 have hOR:=hp.rowAt (i := 3) rfl
 obtain ⟨g7, rfl⟩ : ∃ g, A3 = some ⟨g, 0, none⟩ := by
   obtain ⟨g, hg, _⟩ := hOR.el 0 (by omega)
   exact ⟨g, hg⟩
 have hfl:=(hRF.to (w' := w3)).flen
 refine wl_idx0 (size := 34) (by decide) sl31 rfl rfl rfl k rfl (by omega) ?_
 rw [show (⟨g7, 0, none⟩ : Addr).add (k * 34) = ⟨g7, rows.flatten.length, none⟩ by rw [add_lit', hfl, hxk, Nat.zero_add]; rfl]
 have hpc:=((((hp.tail.up 1 rfl).up 2 rfl).up 2 rfl).as_ (H' := itB gr 103 [.slice A2 l2.length c2, .bool b2] :: itR 97 34 (some ⟨g7, 0, none⟩) (xs.length + 1) c3 (rows.flatten ++ (([Value.int .i64 0] ++ (digC dig0 ++ ([Value.int .i64 0]))) ++ [])) :: X ([.slice (some ⟨g7, 0, none⟩) (xs.length + 1) c3]) :: H) rfl)
 have hcl:=hE _ _ _ (fun cs => itR 97 34 (some ⟨g7, 0, none⟩) (xs.length + 1) c3 (rows.flatten ++ (cs ++ []))) ⟨g7, rows.flatten.length, none⟩ _ _ _ _ mv hpc (Slot.row rows.flatten [] (by decide)) (hl2.to (w' := w3))
 refine wl_callF (vs := [.pointer (some ⟨g7, rows.flatten.length, none⟩)]) (by decide) rfl rfl (fun _ h => by cases h) hcl ?_
 clear hcl
 rintro _ w9 ⟨F9, A9, c9, l9, b9, cs9, x9, hp, hF9, hl9, hrd9, hst9⟩
 have hp:=hp.ay (_ :: _ :: _ :: _)
 have hp:=(hp.up 2 rfl).as_ (H' := _ :: _ :: _ :: _) rfl
 have hp:=(hp.up 1 rfl).as_ (H' := _ :: _ :: _ :: _) rfl
 refine so ?_
 refine Kl [1, 3, 21, 22] hKL1 (x1.toNat - (k + 1)) ⟨(k + 1), F9, A9, c9, l9, b9, (some ⟨g7, 0, none⟩), c3, (xs ++ [x9]), (rows ++ [cs9]), rfl, by omega, ?_, (hRF.to.append (RF.one hrd9)), mv, hl9, StepP.snoc hstL hst9, ?_, rfl⟩ (by omega)
 rw [List.length_append, hxk]; rfl
 rw [flat_snoc, List.length_append]; exact hp
 refine so ?_
 refine wk_post0 (.inr rfl) results97  ?_
 obtain ⟨F8, hp8, hs8, hb8⟩ := ((hp.up 2 rfl).as_ (H' := _ :: _ :: _ :: _) rfl).frzRow
 have hgs:=OwnRow.gsRF (r := standR) (hp.rowAt (i := 2) rfl) (hRF.wid hs8) hb8
 exact ⟨_, rfl, F8, A2, c2, l2, b2, _, xs, hp8, hFr.wid hs8, hl2.wid hs8, sliceR_mk hgs, StepP.bind hst1 (by rw [show x1.toNat = k by omega]; exact hstL)⟩
set_option maxHeartbeats 40000000 in
theorem rListI_ok {gr : Nat} {l : List UInt8} {bad : Bool} {X : List Value → It} {pX : Addr} {most : Int} {p : PR Int} {FV : Value} (hp : HP w0 M0 Fz w (itB gr 103 [.slice A l.length c, .bool bad] :: X ([.slice none 0 0]) :: H)) (hS : Slot X pX 1) (hl : GS byteR Fz w A c l) (hE : EachR prog 103 gr w0 M0 Fz w i64R ([Value.int .i64 0]) p FV) (hm : most ≤ 100) : Ret prog 114 #[.iface 101 (.pointer (some ⟨gr, 0, none⟩)), .pointer (some pX), .int .i64 most, FV] w (RdP 103 gr w0 M0 Fz w H X (sliceR i64R) (listP p most) bad l) := by
 refine ret_of_wk func114 rfl ntmps114 leB_ ?_
 refine so ?_
 refine wdP 9 hp (fun wD hp hED => by refine pm ?_; exact .op rfl (Ld_ sc27 rfl (hp.slotAt (i := 1) hS rfl rfl).head (wl_nil qp)) pl) fun wD hp hED => ?_
 refine Ci rfl (nMany_ok (m0 := 0) (most := most) hp hl.to) ?_
 rintro _ w1 ⟨F1, A1, c1, l1, b1, x1, rfl, hp, hF1, hl1, hst1, hz1⟩
 have hML : ∀ q : Int, 0 ≤ q → q < x1 → x1 ≤ most := by
   intro q h0 h1
   cases hq : b1 with
   | false => exact (many_lim hst1 hq).2
   | true => have := hz1 hq; omega
 refine so ?_
 refine Lp [1, 3, 21, 22] (fun L' w' mes => ∃ (k : Nat), ∃ (F1 : Nat → Prop), ∃ (A2 : Option Addr), ∃ (c2 : Nat), ∃ (l2 : List UInt8), ∃ (b2 : Bool), ∃ (AL : Option Addr), ∃ (cL : Nat), ∃ (xs : List Int), ∃ (rows : List (List Value)), L' = [(1, .pointer (some pX)), (3, FV), (21, iv x1), (22, iv (k : Int))] ∧ (k ≤ x1.toNat) ∧ (xs.length = k) ∧ (RF i64R F1 w' rows xs) ∧ (Frz Fz F1 w w') ∧ (GS byteR F1 w' A2 c2 l2) ∧ (StepP (repP p k) (rst b1 l1) (rst b2 l2) xs) ∧ (HP w0 M0 F1 w' (itB gr 103 [.slice A2 l2.length c2, .bool b2] :: X ([.slice AL xs.length cL]) :: itR 3 1 AL xs.length cL rows.flatten :: H)) ∧ x1.toNat - k = mes) (x1.toNat - 0) (by
     refine ⟨0, F1, A1, c1, l1, b1, none, 0, [], [], rfl, Nat.zero_le _, ?_, RF.nil _ _ _, mv, hl1, StepP.pure _ _, ((hp.noRow 3 1).as_ (H' := _ :: _ :: _ :: _) rfl).rot3, rfl⟩
     rfl) ?_
 rintro _ wr _ ⟨k, F1, A2, c2, l2, b2, AL, cL, xs, rows, rfl, hk, hxk, hRF, hFr, hl2, hstL, hp, rfl⟩ KL1 hKL1
 refine so ?_
 refine Cd ?_ ?_<;>intro hc1
 have hx9:=hML k (by omega) (by omega)
 refine so ?_
 refine Ld_ sc27 rfl (hp.slotAt (i := 1) hS rfl rfl).head (so ?_)
 refine aT (so ?_)
 refine Ld_ sc27 rfl (hp.slotAt (i := 1) hS rfl rfl).head (so ?_)
 refine wl_bsliceE (enc := fun z : Int => iv z) (xs := [.tmp 35]) (bs := [0]) (fun _ => rfl) (by decide) sl27 rfl rfl rfl (by simp) _ (Nat.le_refl _) ?_
 rintro gt wt hgt hot hEt
 replace hp:=hp.ext hEt
 refine wl_happend (i := 2) (m := 1) (news := [iv 0]) (by decide) sl27 rfl rfl hp rfl rfl (fun b hb => by cases hb; exact hot.at0) (by simp) (by simp [Value.oneCell']) (by omega) ?_
 rintro A3 c3 w3 hp hC3
 refine so ?_
 refine wl_sstore1 0 (i := 1) hS (by rw [add_zero']; rfl) rfl hp rfl rfl sz27 (by decide) rfl ?_
 rintro w2 hp hC2
 replace hp:=hp.ay (_ :: X ([.slice A3 (xs.length + 1) c3]) :: _)
 refine so ?_
 refine Ld_ sc27 rfl (hp.slotAt (i := 1) hS rfl rfl).head (so ?_)
 have hOR:=hp.rowAt (i := 2) rfl
 obtain ⟨g7, rfl⟩ : ∃ g, A3 = some ⟨g, 0, none⟩ := by
   obtain ⟨g, hg, _⟩ := hOR.el 0 (by omega)
   exact ⟨g, hg⟩
 have hfl:=(hRF.to (w' := w2)).flen
 refine wl_idx0 (size := 1) (by decide) sl27 rfl rfl rfl k rfl (by omega) ?_
 rw [show (⟨g7, 0, none⟩ : Addr).add (k * 1) = ⟨g7, rows.flatten.length, none⟩ by rw [add_lit', hfl, hxk, Nat.zero_add]; rfl]
 have hpc:=((((hp.up 1 rfl).up 2 rfl).up 2 rfl).as_ (H' := itB gr 103 [.slice A2 l2.length c2, .bool b2] :: itR 3 1 (some ⟨g7, 0, none⟩) (xs.length + 1) c3 (rows.flatten ++ (([Value.int .i64 0]) ++ [])) :: X ([.slice (some ⟨g7, 0, none⟩) (xs.length + 1) c3]) :: H) rfl)
 have hcl:=hE _ _ _ (fun cs => itR 3 1 (some ⟨g7, 0, none⟩) (xs.length + 1) c3 (rows.flatten ++ (cs ++ []))) ⟨g7, rows.flatten.length, none⟩ _ _ _ _ mv hpc (Slot.row rows.flatten [] (by decide)) (hl2.to (w' := w2))
 refine wl_callF (vs := [.pointer (some ⟨g7, rows.flatten.length, none⟩)]) (by decide) rfl rfl (fun _ h => by cases h) hcl ?_
 clear hcl
 rintro _ w9 ⟨F9, A9, c9, l9, b9, cs9, x9, hp, hF9, hl9, hrd9, hst9⟩
 have hp:=hp.ay (_ :: _ :: _ :: _)
 have hp:=(hp.up 2 rfl).as_ (H' := _ :: _ :: _ :: _) rfl
 have hp:=(hp.up 1 rfl).as_ (H' := _ :: _ :: _ :: _) rfl
 refine so ?_
 refine Kl [1, 3, 21, 22] hKL1 (x1.toNat - (k + 1)) ⟨(k + 1), F9, A9, c9, l9, b9, (some ⟨g7, 0, none⟩), c3, (xs ++ [x9]), (rows ++ [cs9]), rfl, by omega, ?_, (hRF.to.append (RF.one hrd9)), mv, hl9, StepP.snoc hstL hst9, ?_, rfl⟩ (by omega)
 rw [List.length_append, hxk]; rfl
 rw [flat_snoc, List.length_append]; exact hp
 refine so ?_
 refine wk_post0 (.inr rfl) results114  ?_
 obtain ⟨F8, hp8, hs8, hb8⟩ := ((hp.up 2 rfl).as_ (H' := _ :: _ :: _ :: _) rfl).frzRow
 have hgs:=OwnRow.gsRF (r := i64R) (hp.rowAt (i := 2) rfl) (hRF.wid hs8) hb8
 exact ⟨_, rfl, F8, A2, c2, l2, b2, _, xs, hp8, hFr.wid hs8, hl2.wid hs8, sliceR_mk hgs, StepP.bind hst1 (by rw [show x1.toNat = k by omega]; exact hstL)⟩
set_option maxHeartbeats 40000000 in
theorem rListD_ok {gr : Nat} {l : List UInt8} {bad : Bool} {X : List Value → It} {pX : Addr} {most : Int} {p : PR Dig} {FV : Value} (hp : HP w0 M0 Fz w (itB gr 103 [.slice A l.length c, .bool bad] :: X ([.slice none 0 0]) :: H)) (hS : Slot X pX 1) (hl : GS byteR Fz w A c l) (hE : EachR prog 103 gr w0 M0 Fz w digR (digC dig0) p FV) (hm : most ≤ 100) : Ret prog 113 #[.iface 101 (.pointer (some ⟨gr, 0, none⟩)), .pointer (some pX), .int .i64 most, FV] w (RdP 103 gr w0 M0 Fz w H X (sliceR digR) (listP p most) bad l) := by
 refine ret_of_wk func113 rfl ntmps113 leB_ ?_
 refine so ?_
 refine wdP 9 hp (fun wD hp hED => by refine pm ?_; exact .op rfl (Ld_ sc36 rfl (hp.slotAt (i := 1) hS rfl rfl).head (wl_nil qp)) pl) fun wD hp hED => ?_
 refine Ci rfl (nMany_ok (m0 := 0) (most := most) hp hl.to) ?_
 rintro _ w1 ⟨F1, A1, c1, l1, b1, x1, rfl, hp, hF1, hl1, hst1, hz1⟩
 have hML : ∀ q : Int, 0 ≤ q → q < x1 → x1 ≤ most := by
   intro q h0 h1
   cases hq : b1 with
   | false => exact (many_lim hst1 hq).2
   | true => have := hz1 hq; omega
 refine so ?_
 refine Lp [1, 3, 21, 22] (fun L' w' mes => ∃ (k : Nat), ∃ (F1 : Nat → Prop), ∃ (A2 : Option Addr), ∃ (c2 : Nat), ∃ (l2 : List UInt8), ∃ (b2 : Bool), ∃ (AL : Option Addr), ∃ (cL : Nat), ∃ (xs : List Dig), ∃ (rows : List (List Value)), L' = [(1, .pointer (some pX)), (3, FV), (21, iv x1), (22, iv (k : Int))] ∧ (k ≤ x1.toNat) ∧ (xs.length = k) ∧ (RF digR F1 w' rows xs) ∧ (Frz Fz F1 w w') ∧ (GS byteR F1 w' A2 c2 l2) ∧ (StepP (repP p k) (rst b1 l1) (rst b2 l2) xs) ∧ (HP w0 M0 F1 w' (itB gr 103 [.slice A2 l2.length c2, .bool b2] :: X ([.slice AL xs.length cL]) :: itR 23 32 AL xs.length cL rows.flatten :: H)) ∧ x1.toNat - k = mes) (x1.toNat - 0) (by
     refine ⟨0, F1, A1, c1, l1, b1, none, 0, [], [], rfl, Nat.zero_le _, ?_, RF.nil _ _ _, mv, hl1, StepP.pure _ _, ((hp.noRow 23 32).as_ (H' := _ :: _ :: _ :: _) rfl).rot3, rfl⟩
     rfl) ?_
 rintro _ wr _ ⟨k, F1, A2, c2, l2, b2, AL, cL, xs, rows, rfl, hk, hxk, hRF, hFr, hl2, hstL, hp, rfl⟩ KL1 hKL1
 refine so ?_
 refine Cd ?_ ?_<;>intro hc1
 have hx9:=hML k (by omega) (by omega)
 refine so ?_
 refine Ld_ sc36 rfl (hp.slotAt (i := 1) hS rfl rfl).head (so ?_)
 refine aT (so ?_)
 refine Alo hp (h := fun gs10 w2 hp hE2 => ?_)
 replace hp:=hp.ay (itB gs10 23 (digC dig0) :: _)
 refine so ?_
 obtain ⟨KM, ⟨hRo, hRk⟩, hKF, hKlt, hpo, hup⟩ := hp.apart (i := 3) rfl
 apply wc_drawTM 7 6 KM [.eq _,.eq _,.eq _,.eq _,.eq _,SP.tmpR _ 23 32 1 (digC dig0),SP.turn KM _ 23 32 (xs.length + 1) (rows.flatten ++ (digC dig0))] (by kernel_rfl) (by kernel_rfl) ⟨.inr (fun _ _ _ _ h => h),.inr (fun _ _ _ _ h => h),.inr (fun _ _ _ _ h => h),.inr (fun _ _ _ _ h => h),.inr (fun _ _ _ _ h => h),.inr (SP.tmpR_st hKlt),.inl rfl,trivial⟩
 refine ⟨?_,?_,?_,?_,?_,?_,?_,trivial⟩<;>intro F wF hER hEE hk
 exact dm (hk.qi 1)
 exact dm (hk.qi 1)
 exact Nc_ (hk.qe 1) qz
 exact Ld_ sc36 (hk.qe 2) ((hpo _ hER).slotAt (i := 2) hS rfl rfl).head qz
 exact Hx_ (digC dig0) 0 ag23 (hk.qi 10) (hpo _ hER) rfl rfl rfl qz
 have e35:=hk.qe 4
 refine wl_bslice (size := 32) (xs := [.tmp 35]) (vs := [.agg (digC dig0).toArray]) (by decide) sl36 rfl (by simp only [evs, ev, e35]; first | done | rfl) rfl (by intro v hv; rw [List.mem_singleton.1 hv]; rfl) leB_ 0 (Nat.zero_le _) ?_
 rintro gt wt hgt hot hEt
 exact qz ⟨hEt, gt, rfl, by rw [hgt]; exact hER.size, hot⟩
 have hEx:=hEE rfl
 have e34:=hk.qe 3
 obtain ⟨u36, e36, h36⟩:=hk.qp 5
 obtain ⟨gt, rfl, hgt0, hot⟩ := h36
 refine wl_append (size := 32) (m := 1) (news := digC dig0) (by decide) sl36 e34 e36 (hRo.ext hEx) rfl (fun b hb => by cases hb; exact hot.at0) (by simp) (List.all_eq_true.1 rfl) (by omega) (Nat.zero_le _) ?_
 rintro A3 c3 w3 ho3 hch3 h43
 exact qz ⟨hch3.weak (fun b _ x => (hRk b).2 ⟨x.1, x.2.2⟩), A3, c3, rfl, ho3, fun b hb => (by
     rcases h43 with ⟨rfl, rfl⟩ | rfl
     · exact .inl ((hRk b).2 hb)
     · obtain ⟨_, a, ha, rfl⟩ := hb
       cases ha
       exact .inr hEx.size)⟩
 intro F wD hED hini hdo
 have e1:=di hini 1
 have e3:=di hini 3
 have e9:=di hini 9
 have e21:=di hini 21
 have e22:=di hini 22
 have e31:=dr hdo 0
 obtain ⟨u37, e37, h37⟩ := hdo 6 37 (Nat.lt_of_lt_of_eq (by decide) rfl) rfl
 obtain ⟨A3, c3, rfl, ho3, hK3⟩ := h37
 refine wl_drop [(1, _), (3, _), (9, _), (21, _), (22, _), (31, _), (37, _)] ⟨e1, e3, e9, e21, e22, e31, e37, trivial⟩ ?_
 clear e1 e3 e9 e21 e22 e31 e37 hini hdo
 have hcz:=hED.zz hKF
 replace hp:=hup _ (itR 23 32 A3 (xs.length + 1) c3 (rows.flatten ++ (digC dig0))) (fun b => c3 ≠ 0 ∧ blk A3 b) hED ⟨ho3, fun _ => Iff.rfl⟩ hK3
 refine so ?_
 refine wl_sstore1 0 (i := 2) hS (by rw [add_zero']; rfl) rfl hp rfl rfl sz36 (by decide) rfl ?_
 rintro w3 hp hC3
 refine so ?_
 refine Ld_ sc36 rfl (hp.slotAt (i := 2) hS rfl rfl).head (so ?_)
 have hOR:=hp.rowAt (i := 3) rfl
 obtain ⟨g7, rfl⟩ : ∃ g, A3 = some ⟨g, 0, none⟩ := by
   obtain ⟨g, hg, _⟩ := hOR.el 0 (by omega)
   exact ⟨g, hg⟩
 have hfl:=(hRF.to (w' := w3)).flen
 refine wl_idx0 (size := 32) (by decide) sl36 rfl rfl rfl k rfl (by omega) ?_
 rw [show (⟨g7, 0, none⟩ : Addr).add (k * 32) = ⟨g7, rows.flatten.length, none⟩ by rw [add_lit', hfl, hxk, Nat.zero_add]; rfl]
 have hpc:=((((hp.tail.up 1 rfl).up 2 rfl).up 2 rfl).as_ (H' := itB gr 103 [.slice A2 l2.length c2, .bool b2] :: itR 23 32 (some ⟨g7, 0, none⟩) (xs.length + 1) c3 (rows.flatten ++ ((digC dig0) ++ [])) :: X ([.slice (some ⟨g7, 0, none⟩) (xs.length + 1) c3]) :: H) rfl)
 have hcl:=hE _ _ _ (fun cs => itR 23 32 (some ⟨g7, 0, none⟩) (xs.length + 1) c3 (rows.flatten ++ (cs ++ []))) ⟨g7, rows.flatten.length, none⟩ _ _ _ _ mv hpc (Slot.row rows.flatten [] (by decide)) (hl2.to (w' := w3))
 refine wl_callF (vs := [.pointer (some ⟨g7, rows.flatten.length, none⟩)]) (by decide) rfl rfl (fun _ h => by cases h) hcl ?_
 clear hcl
 rintro _ w9 ⟨F9, A9, c9, l9, b9, cs9, x9, hp, hF9, hl9, hrd9, hst9⟩
 have hp:=hp.ay (_ :: _ :: _ :: _)
 have hp:=(hp.up 2 rfl).as_ (H' := _ :: _ :: _ :: _) rfl
 have hp:=(hp.up 1 rfl).as_ (H' := _ :: _ :: _ :: _) rfl
 refine so ?_
 refine Kl [1, 3, 21, 22] hKL1 (x1.toNat - (k + 1)) ⟨(k + 1), F9, A9, c9, l9, b9, (some ⟨g7, 0, none⟩), c3, (xs ++ [x9]), (rows ++ [cs9]), rfl, by omega, ?_, (hRF.to.append (RF.one hrd9)), mv, hl9, StepP.snoc hstL hst9, ?_, rfl⟩ (by omega)
 rw [List.length_append, hxk]; rfl
 rw [flat_snoc, List.length_append]; exact hp
 refine so ?_
 refine wk_post0 (.inr rfl) results113  ?_
 obtain ⟨F8, hp8, hs8, hb8⟩ := ((hp.up 2 rfl).as_ (H' := _ :: _ :: _ :: _) rfl).frzRow
 have hgs:=OwnRow.gsRF (r := digR) (hp.rowAt (i := 2) rfl) (hRF.wid hs8) hb8
 exact ⟨_, rfl, F8, A2, c2, l2, b2, _, xs, hp8, hFr.wid hs8, hl2.wid hs8, sliceR_mk hgs, StepP.bind hst1 (by rw [show x1.toNat = k by omega]; exact hstL)⟩
set_option maxHeartbeats 40000000 in
theorem rListC_ok {gr : Nat} {l : List UInt8} {bad : Bool} {X : List Value → It} {pX : Addr} {most : Int} {p : PR Chn} {FV : Value} (hp : HP w0 M0 Fz w (itB gr 103 [.slice A l.length c, .bool bad] :: X ([.slice none 0 0]) :: H)) (hS : Slot X pX 1) (hl : GS byteR Fz w A c l) (hE : EachR prog 103 gr w0 M0 Fz w changeR ([Value.int .i64 0, Value.int .i64 0, Value.int .i64 0, Value.slice none 0 0, Value.slice none 0 0, Value.slice none 0 0]) p FV) (hm : most ≤ 100) : Ret prog 109 #[.iface 101 (.pointer (some ⟨gr, 0, none⟩)), .pointer (some pX), .int .i64 most, FV] w (RdP 103 gr w0 M0 Fz w H X (sliceR changeR) (listP p most) bad l) := by
 refine ret_of_wk func109 rfl ntmps109 leB_ ?_
 refine so ?_
 refine wdP 9 hp (fun wD hp hED => by refine pm ?_; exact .op rfl (Ld_ sc34 rfl (hp.slotAt (i := 1) hS rfl rfl).head (wl_nil qp)) pl) fun wD hp hED => ?_
 refine Ci rfl (nMany_ok (m0 := 0) (most := most) hp hl.to) ?_
 rintro _ w1 ⟨F1, A1, c1, l1, b1, x1, rfl, hp, hF1, hl1, hst1, hz1⟩
 have hML : ∀ q : Int, 0 ≤ q → q < x1 → x1 ≤ most := by
   intro q h0 h1
   cases hq : b1 with
   | false => exact (many_lim hst1 hq).2
   | true => have := hz1 hq; omega
 refine so ?_
 refine Lp [1, 3, 21, 22] (fun L' w' mes => ∃ (k : Nat), ∃ (F1 : Nat → Prop), ∃ (A2 : Option Addr), ∃ (c2 : Nat), ∃ (l2 : List UInt8), ∃ (b2 : Bool), ∃ (AL : Option Addr), ∃ (cL : Nat), ∃ (xs : List Chn), ∃ (rows : List (List Value)), L' = [(1, .pointer (some pX)), (3, FV), (21, iv x1), (22, iv (k : Int))] ∧ (k ≤ x1.toNat) ∧ (xs.length = k) ∧ (RF changeR F1 w' rows xs) ∧ (Frz Fz F1 w w') ∧ (GS byteR F1 w' A2 c2 l2) ∧ (StepP (repP p k) (rst b1 l1) (rst b2 l2) xs) ∧ (HP w0 M0 F1 w' (itB gr 103 [.slice A2 l2.length c2, .bool b2] :: X ([.slice AL xs.length cL]) :: itR 33 6 AL xs.length cL rows.flatten :: H)) ∧ x1.toNat - k = mes) (x1.toNat - 0) (by
     refine ⟨0, F1, A1, c1, l1, b1, none, 0, [], [], rfl, Nat.zero_le _, ?_, RF.nil _ _ _, mv, hl1, StepP.pure _ _, ((hp.noRow 33 6).as_ (H' := _ :: _ :: _ :: _) rfl).rot3, rfl⟩
     rfl) ?_
 rintro _ wr _ ⟨k, F1, A2, c2, l2, b2, AL, cL, xs, rows, rfl, hk, hxk, hRF, hFr, hl2, hstL, hp, rfl⟩ KL1 hKL1
 refine so ?_
 refine Cd ?_ ?_<;>intro hc1
 have hx9:=hML k (by omega) (by omega)
 refine so ?_
 refine Ld_ sc34 rfl (hp.slotAt (i := 1) hS rfl rfl).head (so ?_)
 refine aT (so ?_)
 refine Alo hp (h := fun gs10 w2 hp hE2 => ?_)
 replace hp:=hp.ay (itB gs10 33 ([iv change0.node, iv change0.view, iv change0.low, s0, s0, s0]) :: _)
 refine so ?_
 obtain ⟨KM, ⟨hRo, hRk⟩, hKF, hKlt, hpo, hup⟩ := hp.apart (i := 3) rfl
 apply wc_drawTM 7 6 KM [.eq _,.eq _,.eq _,.eq _,.eq _,SP.tmpR _ 33 6 1 ([Value.int .i64 0,Value.int .i64 0,Value.int .i64 0,Value.slice none 0 0,Value.slice none 0 0,Value.slice none 0 0]),SP.turn KM _ 33 6 (xs.length + 1) (rows.flatten ++ ([Value.int .i64 0,Value.int .i64 0,Value.int .i64 0,Value.slice none 0 0,Value.slice none 0 0,Value.slice none 0 0]))] (by kernel_rfl) (by kernel_rfl) ⟨.inr (fun _ _ _ _ h => h),.inr (fun _ _ _ _ h => h),.inr (fun _ _ _ _ h => h),.inr (fun _ _ _ _ h => h),.inr (fun _ _ _ _ h => h),.inr (SP.tmpR_st hKlt),.inl rfl,trivial⟩
 refine ⟨?_,?_,?_,?_,?_,?_,?_,trivial⟩<;>intro F wF hER hEE hk
 exact dm (hk.qi 1)
 exact dm (hk.qi 1)
 exact Nc_ (hk.qe 1) qz
 exact Ld_ sc34 (hk.qe 2) ((hpo _ hER).slotAt (i := 2) hS rfl rfl).head qz
 exact Hx_ ([iv change0.node, iv change0.view, iv change0.low, s0, s0, s0]) 0 ag33 (hk.qi 10) (hpo _ hER) rfl rfl rfl qz
 have e35:=hk.qe 4
 refine wl_bslice (size := 6) (xs := [.tmp 35]) (vs := [.agg ([Value.int .i64 0, Value.int .i64 0, Value.int .i64 0, Value.slice none 0 0, Value.slice none 0 0, Value.slice none 0 0]).toArray]) (by decide) sl34 rfl (by simp only [evs, ev, e35]; first | done | rfl) rfl (by intro v hv; rw [List.mem_singleton.1 hv]; rfl) leB_ 0 (Nat.zero_le _) ?_
 rintro gt wt hgt hot hEt
 exact qz ⟨hEt, gt, rfl, by rw [hgt]; exact hER.size, hot⟩
 have hEx:=hEE rfl
 have e34:=hk.qe 3
 obtain ⟨u36, e36, h36⟩:=hk.qp 5
 obtain ⟨gt, rfl, hgt0, hot⟩ := h36
 refine wl_append (size := 6) (m := 1) (news := [Value.int .i64 0, Value.int .i64 0, Value.int .i64 0, Value.slice none 0 0, Value.slice none 0 0, Value.slice none 0 0]) (by decide) sl34 e34 e36 (hRo.ext hEx) rfl (fun b hb => by cases hb; exact hot.at0) (by simp) (List.all_eq_true.1 rfl) (by omega) (Nat.zero_le _) ?_
 rintro A3 c3 w3 ho3 hch3 h43
 exact qz ⟨hch3.weak (fun b _ x => (hRk b).2 ⟨x.1, x.2.2⟩), A3, c3, rfl, ho3, fun b hb => (by
     rcases h43 with ⟨rfl, rfl⟩ | rfl
     · exact .inl ((hRk b).2 hb)
     · obtain ⟨_, a, ha, rfl⟩ := hb
       cases ha
       exact .inr hEx.size)⟩
 intro F wD hED hini hdo
 have e1:=di hini 1
 have e3:=di hini 3
 have e9:=di hini 9
 have e21:=di hini 21
 have e22:=di hini 22
 have e31:=dr hdo 0
 obtain ⟨u37, e37, h37⟩ := hdo 6 37 (Nat.lt_of_lt_of_eq (by decide) rfl) rfl
 obtain ⟨A3, c3, rfl, ho3, hK3⟩ := h37
 refine wl_drop [(1, _), (3, _), (9, _), (21, _), (22, _), (31, _), (37, _)] ⟨e1, e3, e9, e21, e22, e31, e37, trivial⟩ ?_
 clear e1 e3 e9 e21 e22 e31 e37 hini hdo
 have hcz:=hED.zz hKF
 replace hp:=hup _ (itR 33 6 A3 (xs.length + 1) c3 (rows.flatten ++ ([Value.int .i64 0, Value.int .i64 0, Value.int .i64 0, Value.slice none 0 0, Value.slice none 0 0, Value.slice none 0 0]))) (fun b => c3 ≠ 0 ∧ blk A3 b) hED ⟨ho3, fun _ => Iff.rfl⟩ hK3
 refine so ?_
 refine wl_sstore1 0 (i := 2) hS (by rw [add_zero']; rfl) rfl hp rfl rfl sz34 (by decide) rfl ?_
 rintro w3 hp hC3
 refine so ?_
 refine Ld_ sc34 rfl (hp.slotAt (i := 2) hS rfl rfl).head (so ?_)
 have hOR:=hp.rowAt (i := 3) rfl
 obtain ⟨g7, rfl⟩ : ∃ g, A3 = some ⟨g, 0, none⟩ := by
   obtain ⟨g, hg, _⟩ := hOR.el 0 (by omega)
   exact ⟨g, hg⟩
 have hfl:=(hRF.to (w' := w3)).flen
 refine wl_idx0 (size := 6) (by decide) sl34 rfl rfl rfl k rfl (by omega) ?_
 rw [show (⟨g7, 0, none⟩ : Addr).add (k * 6) = ⟨g7, rows.flatten.length, none⟩ by rw [add_lit', hfl, hxk, Nat.zero_add]; rfl]
 have hpc:=((((hp.tail.up 1 rfl).up 2 rfl).up 2 rfl).as_ (H' := itB gr 103 [.slice A2 l2.length c2, .bool b2] :: itR 33 6 (some ⟨g7, 0, none⟩) (xs.length + 1) c3 (rows.flatten ++ (([Value.int .i64 0, Value.int .i64 0, Value.int .i64 0, Value.slice none 0 0, Value.slice none 0 0, Value.slice none 0 0]) ++ [])) :: X ([.slice (some ⟨g7, 0, none⟩) (xs.length + 1) c3]) :: H) rfl)
 have hcl:=hE _ _ _ (fun cs => itR 33 6 (some ⟨g7, 0, none⟩) (xs.length + 1) c3 (rows.flatten ++ (cs ++ []))) ⟨g7, rows.flatten.length, none⟩ _ _ _ _ mv hpc (Slot.row rows.flatten [] (by decide)) (hl2.to (w' := w3))
 refine wl_callF (vs := [.pointer (some ⟨g7, rows.flatten.length, none⟩)]) (by decide) rfl rfl (fun _ h => by cases h) hcl ?_
 clear hcl
 rintro _ w9 ⟨F9, A9, c9, l9, b9, cs9, x9, hp, hF9, hl9, hrd9, hst9⟩
 have hp:=hp.ay (_ :: _ :: _ :: _)
 have hp:=(hp.up 2 rfl).as_ (H' := _ :: _ :: _ :: _) rfl
 have hp:=(hp.up 1 rfl).as_ (H' := _ :: _ :: _ :: _) rfl
 refine so ?_
 refine Kl [1, 3, 21, 22] hKL1 (x1.toNat - (k + 1)) ⟨(k + 1), F9, A9, c9, l9, b9, (some ⟨g7, 0, none⟩), c3, (xs ++ [x9]), (rows ++ [cs9]), rfl, by omega, ?_, (hRF.to.append (RF.one hrd9)), mv, hl9, StepP.snoc hstL hst9, ?_, rfl⟩ (by omega)
 rw [List.length_append, hxk]; rfl
 rw [flat_snoc, List.length_append]; exact hp
 refine so ?_
 refine wk_post0 (.inr rfl) results109  ?_
 obtain ⟨F8, hp8, hs8, hb8⟩ := ((hp.up 2 rfl).as_ (H' := _ :: _ :: _ :: _) rfl).frzRow
 have hgs:=OwnRow.gsRF (r := changeR) (hp.rowAt (i := 2) rfl) (hRF.wid hs8) hb8
 exact ⟨_, rfl, F8, A2, c2, l2, b2, _, xs, hp8, hFr.wid hs8, hl2.wid hs8, sliceR_mk hgs, StepP.bind hst1 (by rw [show x1.toNat = k by omega]; exact hstL)⟩
end Go.Proofs.YtkdoomglflikkaaGreat
namespace Go.Proofs.YtkdoomglflikkaaGreat
open Go.Eng Go.RowKit Go.Eng _root_.Go.Proofs.Tryz
set_option maxRecDepth 100000
variable {w0 w : World} {M0 Fz : Nat → Prop} {H : List It} {A : Option Addr} {c : Nat}
set_option maxHeartbeats 4000000 in
theorem rCopyW_ok {w : World} {csx : List Value} {x : Wsh} {Sx : Nat → Prop} (hx : wishR.rd Sx w csx x) (hsz : x.next.length * 8 ≤ 140737488355328) : Ret prog 61 #[.agg csx.toArray] w (fun v w' => ∃ A c B d cs, v = .agg cs.toArray ∧ cs = [iv x.client, iv x.stamp, iv x.group, iv x.epoch, iv x.kind, iv x.block, .slice A x.data.length c, iv x.old, iv x.new, .slice B x.next.length d] ∧
  GS byteR (fun b => w.heap.size ≤ b) w' A c x.data ∧ IntsAt (fun b => w.heap.size ≤ b) w' .u8 A x.data.length 1 0 ∧ GS intR (fun b => w.heap.size ≤ b) w' B d x.next ∧ Ext w w') := by
 obtain ⟨hIx, Ax0, cx0, Ax1, cx1, rfl, hx0, hx1⟩ := hx
 refine ret_of_wk func61 rfl ntmps61 leB_ ?_
 have hp : HP w (fun _ => False) (fun _ => False) w [] := (HP.begin_ w).less (fun _ h => h.elim)
 refine so ?_
 refine Bx hp (h := fun gs1 w1 hp hE1 => so ?_)
 refine Alo hp (h := fun gs2 w2 hp hE2 => so ?_)
 refine Alo hp (h := fun gs3 w3 hp hE3 => so ?_)
 refine Hs 0 hp (h := fun w4 hp hC4 => so ?_)
 refine Ce (rCopyB_ok (GS.keep hp.chg (fun _ _ _ h => h) hx0)) ?_
 rintro _ w5 ⟨A5, c5, rfl, ho5, hE5⟩
 obtain ⟨F5, hp, hs5, hn5, hl5⟩ := hp.frz hE5
 refine so ?_
 refine H1 0 hp (h := fun w6 hp hC6 => so ?_)
 refine Ce (rCopyI_ok (GS.keep hp.chg (fun _ _ _ h => h) hx1) hsz) ?_
 rintro _ w7 ⟨A7, c7, rfl, ho7, hE7⟩
 obtain ⟨F7, hp, hs7, hn7, hl7⟩ := hp.frz hE7
 refine so ?_
 refine H1 0 hp (h := fun w8 hp hC8 => so ?_)
 refine Hs 1 hp (h := fun w9 hp hC9 => so ?_)
 refine wk_postR (rs := [.cell 2 68]) (.inl rfl) results61 ⟨_, _, _, rfl, rfl, loadVar_agg ag68 (hp.blkAt (i := 1) rfl).at0 rfl, rfl⟩ ?_
 have hz : w.heap.size ≤ w4.heap.size ∧ w4.heap.size ≤ w6.heap.size := by have := hE1.size; have := hE2.size; have := hE3.size; have := hC4.size; have := hE5.size; have := hC6.size; omega
 have k5 := (mv : Frz F5 F7 w5 w9).chg
 have k7 := (mv : Frz F7 F7 w7 w9).chg
 exact ⟨_, rfl, A5, c5, A7, c7, _, rfl, rfl, (GS.keep k5 (fun b hb hs hn => hn (hn5 b hs hb)) ho5.bs).mono (fun b _ h => Nat.le_trans hz.1 h), (ho5.bytesI.keep k5 (fun b hb hs hn => hn (hn5 b hs hb))).mono (fun b _ h => Nat.le_trans hz.1 h), (GS.keep k7 (fun b hb hs hn => hn (hn7 b hs hb)) (OwnRow.gs1 (he := fun _ => rfl) ho7)).mono (fun b _ h => Nat.le_trans (Nat.le_trans hz.1 hz.2) h), hp.chg⟩
end Go.Proofs.YtkdoomglflikkaaGreat
namespace Go.Proofs.YtkdoomglflikkaaGreat
open Go.ChangeShapes Go.WideShapes Go.ChangeAt Go.RowKit Go.Eng Go.Eng _root_.Go.Proofs.Tryz
set_option maxRecDepth 100000
variable {w0 w : World} {M0 Fz : Nat → Prop} {H : List It} {A : Option Addr} {c : Nat}
theorem reads_PckB : ReadsR Tryz.prog 66 pickR (fun x => (∀ y ∈ x.batch, y.next.length * 8 ≤ 140737488355328) ∧ x.batch.length * 112 ≤ 140737488355328) := by
 intro H enc w base sp held fuel cs x h hlt hw
 have hlen := trod_structLen Tryz.underlying66 h
 rw [Tryz.ce66] at hlen
 obtain ⟨v0, h0, g0⟩ := reads_field Tryz.underlying66 (i := 0) rfl (reads_int Tryz.underlying3) h hlt hw
 replace h0 : intR.rd _ _ ((cs.drop 0).take (Tryz.prog.cellsOf 3)) v0 := h0
 rw [Tryz.ce3] at h0
 have e0 : (cs.drop 0).take 1 = [.int .i64 v0] := h0
 obtain ⟨v1, h1, g1⟩ := reads_field Tryz.underlying66 (i := 1) rfl reads_t23 h hlt hw
 replace h1 : digR.rd _ _ ((cs.drop 1).take (Tryz.prog.cellsOf 23)) v1 := h1
 rw [Tryz.ce23] at h1
 have e1 : (cs.drop 1).take 32 = digC v1 := h1
 obtain ⟨v2, h2, g2⟩ := reads_field Tryz.underlying66 (i := 2) rfl reads_t24B h hlt hw
 replace h2 : (sliceR wishR).rd _ _ ((cs.drop 33).take (Tryz.prog.cellsOf 24)) v2 := h2
 rw [Tryz.ce24] at h2
 obtain ⟨A2, c2, e2, k2⟩ := h2
 have e := (List.drop_zero (l := cs)).symm
 rw [seg_cons (m := 1) rfl e0] at e
 rw [seg_cons (m := 33) rfl e1] at e
 rw [seg_cons (m := 34) rfl e2] at e
 rw [List.drop_eq_nil_of_le (by rw [hlen]; exact Nat.le_refl _)] at e
 refine ⟨{ seq := v0, dig := v1, batch := v2 }, ?_, g2⟩
 refine ⟨by unfold PckI i64; dsimp only; omega, _, _, e.trans (by (try simp only [List.cons_append, List.nil_append, List.append_nil]); try rfl), k2⟩
end Go.Proofs.YtkdoomglflikkaaGreat
namespace Go.Proofs.YtkdoomglflikkaaGreat
open Go.RowKit Go.Eng Go.Eng _root_.Go.Proofs.Tryz
set_option maxRecDepth 100000
variable {w0 w : World} {M0 Fz : Nat → Prop} {H : List It} {A : Option Addr} {c : Nat}
theorem chapN_may (k : Int) (h0 : 1 ≤ k) (h1 : k ≤ 16) : PackMay (chapN k) := by
 have hd : ∀ i : Fin 16, PackMay (chapN ((i.val : Int) + 1)) := by decide +kernel
 obtain ⟨i, rfl⟩ : ∃ i : Nat, k = (i : Int) + 1 := ⟨(k - 1).toNat, by omega⟩
 exact hd ⟨i, by omega⟩
set_option maxHeartbeats 4000000 in
theorem r11NumW_ok {n : Int} {w : World}  (hn : isNum n) : Ret Tryz.prog 120 #[.int .i64 n] w (fun v w' => ∃ A' c', v = .slice A' (numE n).length c' ∧ OwnB 5 w.heap.size w' A' c' (numE n) ∧ Ext w w') := by
 refine ret_of_wk Tryz.func120 rfl Tryz.ntmps120 (Nat.le_of_ble_eq_true rfl) ?_
 have hEc : Ext w w := Chg.refl _ _
 refine wc_seq ?_
 refine wc_region ?_
 refine wl_assign (by decide) rfl ?_
 refine wl_nil ?_
 refine wk_norm ?_
 refine wc_seq ?_
 refine wc_region ?_
 refine wl_move (by decide) rfl ?_
 refine wl_call (by decide) Tryz.cl74 rfl (rnum_is (n := n) hn) ?_
 rintro _ w1 ⟨A1, c1, rfl, ho1, hE1⟩
 replace hEc := hEc.trans hE1
 refine wl_move (by decide) rfl ?_
 refine wl_extract (by decide) rfl rfl ?_
 refine wl_extract (by decide) rfl rfl ?_
 refine wl_assign (by decide) rfl ?_
 refine wl_assign (by decide) rfl ?_
 refine wl_nil ?_
 refine wk_norm ?_
 refine wc_seq ?_
 refine wc_region ?_
 refine wl_move (by decide) rfl ?_
 refine wl_assign (by decide) rfl ?_
 refine wl_nil ?_
 refine wk_norm ?_
 refine wc_ret ?_
 refine wk_post1 (.inl rfl) Tryz.results120 rfl ?_
 exact ⟨_, rfl, A1, c1, rfl, ho1, hEc⟩
end Go.Proofs.YtkdoomglflikkaaGreat
