/- JudgeSpoilt is true: what the program answers is what the statement says, for every argument (no further condition). -/
import Derived.Test.YtgheaedligkhoaaFaa
import Derived.Test.YtgheaedligkhoaaAaa
import Derived.Test.YtgheaedligkhoaaAab
import Derived.Test.YtgheaedligkhoaaAac
import Derived.Test.YtgheaedligkhoaaAad
import Derived.Test.YtgheaedligkhoaaAae
import Derived.Test.YtgheaedligkhoaaAar
import Derived.Test.YtgheaedligkhoaaFab
import Derived.Test.YtgheaedligkhoaaFac
import Derived.Test.YtgheaedligkhoaaFad
namespace Go.Proofs.Ytgheaedligkhoaa
open Go.RowKit Go.Eng _root_.Go.Proofs.Try Go.Eng _root_.Go.Proofs.Try
set_option maxRecDepth 100000
variable {w0 w : World} {M0 Fz : Nat → Prop} {H : List It} {A : Option Addr} {c : Nat}
theorem sp4 {l : List Int} {n : Nat} {d : Dig} (h : n < (storyS l).length) (hk : (storyS l)[n].kind = 3 ∨ (storyS l)[n].kind = 4) (ha : ((storyS l).take n).any (ahq (storyS l)[n]) = true) (hd : d.l.getD 31 0 ≠ 0) : findS planP ((storyS l).set n { (storyS l)[n] with dig := d }) = (4, (n : Int), 0) := by
 obtain ⟨x, hx, hxk, hxs⟩ := ahq_some ha
 have h9 := at9 l h
 exact spoilt_find h (by decide) (spoil4 h9.good h9.all h9.ste hk hd hx hxk hxs)
theorem sp5 {l : List Int} {n : Nat} (h : n < (storyS l).length) (hk : (storyS l)[n].kind = 3) (ha : ((storyS l).take n).any (ahq (storyS l)[n]) = true) : findS planP ((storyS l).set n { (storyS l)[n] with wish := { (storyS l)[n].wish with block := 7 - (storyS l)[n].wish.block } }) = (5, (n : Int), 0) := by
 obtain ⟨x, hx, hxk, hxs⟩ := ahq_some ha
 have h9 := at9 l h
 have hb := h9.ste.blk hk
 have hx3 := hxk.trans hk
 exact spoilt_find h (by decide) (spoil5b h9.good h9.all h9.ste hk h9.nt (by omega) hx hx3 hxs ((h9.all x hx).na hx3))
theorem sp11 {l : List Int} {n : Nat} (h : n < (storyS l).length) (hk : (storyS l)[n].kind = 2) (hw : (storyS l)[n].wish.kind = 1) : findS planP ((storyS l).set n { (storyS l)[n] with ans := { (storyS l)[n].ans with data := dat 200 } }) = (11, (n : Int), 0) := by
 have h9 := at9 l h
 exact spoilt_find h (by decide) (spoil11 h9.nb h9.good h9.all (h9.dd hk) hk hw)
theorem sp8 {l : List Int} {n : Nat} (h : n < (storyS l).length) (hk : (storyS l)[n].kind = 1) : findS planP ((storyS l).set n { (storyS l)[n] with wish := { (storyS l)[n].wish with stamp := (storyS l)[n].wish.stamp + 1 } }) = (8, (n : Int), 0) := by
 have h9 := at9 l h
 exact spoilt_find h (by decide) (spoil8 h9.good hk)
set_option maxHeartbeats 16000000 in
theorem judgeSpoilt_ok {w : World} {S : Nat → Prop} {l : List Int} {A : Option Addr} {c : Nat} {at_ how : Int} (hl : GS intR S w A c l) (hI : ∀ x ∈ l, i64 x) (ha : i64 at_) (hh : i64 how) : Ret prog 5 #[.slice A l.length c, iv at_, iv how] w (fun v w' => v = .bool true ∧ Ext w w') := by
 refine ret_of_wk func5 rfl ntmps5 leB_ ?_
 have hp := HP.begin_ w
 generalize hF0 : (fun b => b < w.heap.size) = F0 at hp
 refine so ?_
 refine Ce works_ok ?_
 rintro _ w1 ⟨rfl, E1⟩
 obtain ⟨F1, hp, s1, n1, _⟩ := hp.frz E1
 refine so ?_
 refine aF (so ?_)
 refine Ce (story_ok (hl.ext E1) hI) ?_
 rintro _ w2 ⟨⟨A', c', rfl, ho⟩, E2⟩
 have ho' : OutR evtR (fun b => F1 b ∨ w1.heap.size ≤ b) 46 w1.heap.size w2 A' c' (storyS l) := by
  obtain ⟨rows, h1, h2⟩ := ho.ex
  refine ⟨rows, h1, h2.wid (fun b hb => ⟨?_, hb.2⟩)⟩
  by_cases x1 : w1.heap.size ≤ b
  ·exact .inr x1
  ·by_cases x2 : b < w.heap.size
   ·exact .inl (s1 b (by rw [← hF0]; exact x2))
   ·exact .inl (n1 b (by omega) (by omega))
 obtain ⟨F2, rows, hp, hR, s2, _⟩ := hp.outIn E2 ho'
 have hp : HP w (fun _ => False) F2 w2 (itR 46 53 A' (storyS l).length c' rows.flatten :: []) := hp
 have hlen := story_len l
 have g4 : ∀ (n : Nat) (d : Dig) (h : n < (storyS l).length), _ := fun n d h => sp4 (l := l) (n := n) (d := d) h
 have g5 : ∀ (n : Nat) (h : n < (storyS l).length), _ := fun n h => sp5 (l := l) (n := n) h
 have g11 : ∀ (n : Nat) (h : n < (storyS l).length), _ := fun n h => sp11 (l := l) (n := n) h
 have g8 : ∀ (n : Nat) (h : n < (storyS l).length), _ := fun n h => sp8 (l := l) (n := n) h
 have gst : ∀ (n : Nat) (h : n < (storyS l).length), _ := fun n h => stamp_b (l := l) (n := n) h
 have gbl : ∀ (n : Nat) (h : n < (storyS l).length), _ := fun n h => (at9 l h).ste.blk
 clear ho ho' hl hI s1 n1 s2
 generalize storyS l = s at *
 refine so ?_
 refine Cd ?_ ?_ <;> intro q0 <;> refine so ?_
 ·exact Pt ⟨_, rfl, rfl, hp.chg⟩
 refine Ce (lbring_ok (n := (s.length : Int)) ha (by unfold i64; omega)) ?_
 rintro _ w3 ⟨rfl, E3⟩
 refine so ?_
 refine Ce (lbring_ok (n := 5) hh (by unfold i64; omega)) ?_
 rintro _ w4 ⟨rfl, E4⟩
 obtain ⟨n0, hn0, hn0l⟩ : ∃ n : Nat, bringI at_ (s.length : Int) = (n : Int) ∧ n < s.length := by
  have h2 := Int.emod_nonneg at_ (by omega : (s.length : Int) ≠ 0)
  have h3 := Int.emod_lt_of_pos at_ (by omega : 0 < (s.length : Int))
  rw [bringI, if_neg (by omega)]
  exact ⟨(at_ % (s.length : Int)).toNat, by omega, by omega⟩
 obtain ⟨h0, hh0, hh5⟩ : ∃ n : Nat, bringI how 5 = (n : Int) ∧ n < 5 := by
  have h2 := Int.emod_nonneg how (by omega : (5 : Int) ≠ 0)
  have h3 := Int.emod_lt_of_pos how (by omega : 0 < (5 : Int))
  rw [bringI, if_neg (by omega)]
  exact ⟨(how % 5).toNat, by omega, by omega⟩
 rw [hn0, hh0]
 replace hp := (hp.ext E3).ext E4
 replace hR := (hR.ext E3).ext E4
 clear hn0 hh0
 refine so ?_
 refine wl_bsliceI (xs := [.const (.int .i64 3), .const (.int .i64 4), .const (.int .i64 3), .const (.int .i64 2), .const (.int .i64 1)]) (l := [3, 4, 3, 2, 1]) (by decide) sl33 rfl rfl rfl (by decide) ?_
 rintro gk w5 hk E5
 replace hp := hp.ext E5
 replace hR := hR.ext E5
 generalize some (⟨gk, 0, none⟩ : Addr) = Ak at hk ⊢
 refine sl ?_
 refine wc_seq_cut (fun L' w' => ∃ m : Nat, L' = [(1, iv (m : Int)), (2, iv (h0 : Int)), (7, .slice A' s.length c'), (8, .slice Ak 5 5)] ∧ m < s.length ∧ Ext w5 w') ?_ ?_
 ·intro K hK
  refine so ?_
  refine Lp [1, 2, 7, 8, 9] (fun L' w' mes => ∃ i m : Nat, L' = [(1, iv (m : Int)), (2, iv (h0 : Int)), (7, .slice A' s.length c'), (8, .slice Ak 5 5), (9, iv (i : Int))] ∧ i ≤ s.length ∧ m < s.length ∧ Ext w5 w' ∧ mes = s.length - i) (s.length - 0) ⟨0, n0, rfl, Nat.zero_le _, hn0l, Chg.refl _ _, rfl⟩ ?_
  rintro _ wr _ ⟨i, m, rfl, hi, hm, Er, rfl⟩ KL hKL
  have hgs := row_gs (hp.ext Er) (hR.ext Er)
  obtain ⟨a, A0, c0, A1, c1, A2, c2, A3, c3, hA, hat, _⟩ := evtR_el hgs m hm
  generalize s.getD m evt0 = x at hat
  obtain ⟨ak, hAk, hatk⟩ := GS.el1 (hk.ext Er) h0 hh5
  generalize ([3, 4, 3, 2, 1] : List Int)[h0] = kk at hatk
  clear g4 g5 g11 g8 gst gbl hgs
  refine so ?_
  by_cases b1 : (i : Int) < s.length
  ·refine wdE 14 (fun wD hED => pl) fun w6 E6 => so ?_
   refine Gs 30 ?_ ?_ <;> intro c2
   rotate_left
   ·exact absurd b1 c2
   refine so ?_
   refine Cd ?_ ?_ <;> intro c3 <;> refine so ?_
   ·refine wl_rem (z := (((m + 1) % s.length : Nat) : Int)) (by decide) rfl rfl (by omega) (Int.ofNat_tmod _ _).symm (so ?_)
    exact Kl [1, 2, 7, 8, 9] hKL (s.length - (i + 1)) ⟨i + 1, (m + 1) % s.length, rfl, by omega, Nat.mod_lt _ (by omega), Er.trans E6, rfl⟩ (by omega)
   ·exact Kd [1, 2, 7, 8] hK ⟨m, rfl, hm, Er.trans E6⟩
  ·refine wdE 14 (fun wD hED => pl) fun w6 E6 => so ?_
   refine Gs 30 ?_ ?_ <;> intro c2
   ·exact absurd c2 b1
   refine so ?_
   refine aF (so ?_)
   exact Kd [1, 2, 7, 8] hK ⟨m, rfl, hm, Er.trans E6⟩
 rintro _ w6 ⟨m, rfl, hm, E6⟩
 replace hp := hp.ext E6
 replace hR := hR.ext E6
 replace hk := hk.ext E6
 have hgs := row_gs hp hR
 obtain ⟨a, A0, c0, A1, c1, A2, c2, A3, c3, hA, hat, _⟩ := evtR_el hgs m hm
 obtain ⟨ak, hAk, hatk⟩ := GS.el1 hk h0 hh5
 obtain ⟨cs, hcs, hre⟩ := hR.2 m hm
 have g4 := fun d => g4 m d hm
 have g5 := g5 m hm
 have g11 := g11 m hm
 have g8 := g8 m hm
 have gst := gst m hm
 have gbl := gbl m hm
 have hem : s.getD m evt0 = s[m] := by rw [List.getD_eq_getElem?_getD, List.getElem?_eq_getElem hm]; rfl
 rw [hem] at hat
 have hany := fun (i : Nat) (h : i < s.length) => any_step (q := ahq s[m]) h
 generalize hee : s[m] = e at hat hre g4 g5 g11 g8 gst gbl hany
 clear hem hee
 generalize hkk : ([3, 4, 3, 2, 1] : List Int)[h0] = kk at hatk
 refine so ?_
 refine wdE 9 (fun wD hED => pl) fun w7 E7 => ?_
 refine wl_neq (by decide) rfl rfl (so ?_)
 refine Cd ?_ ?_ <;> intro q1
 ·refine so ?_
  exact Pt ⟨_, rfl, rfl, (hp.ext E7).chg⟩
 have hkind : e.kind = kk := Decidable.not_not.1 q1
 clear q1 hatk hAk hk
 refine sl ?_
 refine wc_seq ?_
 refine wc_region ?_
 refine sl ?_
 refine wc_seq_cut (fun L' w' => L' = [(1, iv (m : Int)), (2, iv (h0 : Int)), (7, .slice A' s.length c'), (10, .bool ((s.take m).any (ahq e)))] ∧ Ext w7 w') ?_ ?_
 ·intro K hK
  refine so ?_
  refine Lp [1, 2, 7, 10, 11] (fun L' w' mes => ∃ i : Nat, L' = [(1, iv (m : Int)), (2, iv (h0 : Int)), (7, .slice A' s.length c'), (10, .bool ((s.take i).any (ahq e))), (11, iv (i : Int))] ∧ i ≤ m ∧ Ext w7 w' ∧ mes = m - i) (m - 0) ⟨0, rfl, Nat.zero_le _, Chg.refl _ _, rfl⟩ ?_
  rintro _ wr _ ⟨i, rfl, hi, Er, rfl⟩ KL hKL
  have Ew := E7.trans Er
  have hat := hat.ext Ew
  obtain ⟨a', I0, i0, I1, i1, I2, i2, I3, i3, hA', hati, _⟩ := evtR_el (hgs.ext Ew) i (by omega)
  rw [hA] at hA'
  cases hA'
  refine so ?_
  refine Cd ?_ ?_ <;> intro c1 <;> refine so ?_
  ·have hst := hany i (by omega)
   have nx : ∀ v w8, v = (s.take (i + 1)).any (ahq e) → Ext wr w8 → WK 161 KL [(1, iv (m : Int)), (2, iv (h0 : Int)), (7, .slice A' s.length c'), (10, .bool v), (11, iv ((i : Int) + 1))] w8 := fun v w8 hv E8 => by
    subst hv
    exact Kl [1, 2, 7, 10, 11] hKL (m - (i + 1)) ⟨i + 1, rfl, by omega, Er.trans E8, rfl⟩ (by omega)
   have fin : ∀ {L : List (Nat × Value)} {v w8}, pk L [1, 2, 7, 10, 11] = [(1, iv (m : Int)), (2, iv (h0 : Int)), (7, .slice A' s.length c'), (10, .bool v), (11, iv ((i : Int) + 1))] → ([1, 2, 7, 10, 11].all fun i => (lk L i).isSome) = true → v = (s.take (i + 1)).any (ahq e) → Ext wr w8 → WK 161 KL L w8 := fun h1 h2 h3 h4 => wk_drop _ (by rw [← h1]; exact pk_sub h2) (nx _ _ h3 h4)
   clear nx hKL hany g4 g5 g11 g8 gst gbl
   rw [hst] at fin
   generalize s.getD i evt0 = y at hati hst fin
   generalize (s.take i).any (ahq e) = b at hst fin
   have hq : ahq e y = decide (y.kind = e.kind ∧ y.seq = e.seq) := rfl
   cases b
   ·by_cases d1 : y.kind = e.kind
    ·refine wdE 24 (fun wD hED => pl) fun w8 E8 => so ?_
     refine Gs 77 ?_ ?_ <;> intro c2
     rotate_left
     ·exact absurd d1 c2
     refine so ?_
     exact fin rfl rfl (by rw [Bool.false_or, hq]; exact decide_eq_decide.2 ⟨fun h => ⟨d1, h⟩, fun h => h.2⟩) E8
    ·refine wdE 24 (fun wD hED => pl) fun w8 E8 => so ?_
     refine Gs 77 ?_ ?_ <;> intro c2
     ·exact absurd c2 d1
     refine so ?_
     exact fin rfl rfl (by rw [Bool.false_or, hq]; exact (decide_eq_false (fun h => d1 h.1)).symm) E8
   ·refine wdE 24 (fun wD hED => pl) fun w8 E8 => so ?_
    exact fin rfl rfl (by rw [Bool.true_or]) E8
  ·obtain rfl : i = m := by omega
   exact Kd [1, 2, 7, 10] hK ⟨rfl, Er⟩
 rintro _ w8 ⟨rfl, E8⟩
 have Ew := E7.trans E8
 replace hp := hp.ext Ew
 replace hR := hR.ext Ew
 replace hat := hat.ext Ew
 replace hre := keepE hre Ew
 clear hgs hany E1 E2 E3 E4 E5 E6 E7 E8 Ew
 obtain ⟨ga, hga⟩ := row_addr (hp.rowAt (i := 0) rfl) hm
 obtain rfl : a = ⟨ga, 0, none⟩ := by rw [hA] at hga; injection hga
 clear hga
 have hcell : ∀ k, ((⟨ga, 0, none⟩ : Addr).add (m * 53)).add k = ⟨ga, m * 53 + k, none⟩ := fun k => by rw [add_lit', add_lit', Nat.zero_add]
 have hrl : rows.flatten.length = s.length * 53 := (hp.rowAt (i := 0) rfl).len
 have hml : m * 53 + 53 ≤ s.length * 53 := by omega
 generalize (s.take m).any (ahq e) = b at g4 g5 ⊢
 generalize haa : (⟨ga, 0, none⟩ : Addr) = aa at hat hA hcell ⊢
 have hx : ∀ k j, ((aa.add (m * 53)).add k).add j = ⟨ga, m * 53 + k + j, none⟩ := fun k j => by rw [hcell, add_lit']
 rcases (by omega : h0 = 0 ∨ h0 = 1 ∨ h0 = 2 ∨ h0 = 3 ∨ h0 = 4) with rfl | rfl | rfl | rfl | rfl
 ·have hk3 : e.kind = 3 := hkind.trans hkk.symm
  refine so ?_
  refine aT (so ?_)
  refine aT (so ?_)
  refine wl_idxA (by decide) ar39 rfl rfl 31 rfl (by decide) (so ?_)
  refine wl_hstoreR (i := 0) (g := ga) (o := m * 53 + 38) (congrArg (fun p => some (Value.pointer (some p))) (hx 7 (31 * 1))) rfl hp rfl sz5 (by rw [hA, haa]) (by rw [hrl]; show m * 53 + 38 + 1 ≤ s.length * 53; omega) (show (1 : Nat) ≠ 0 by decide) (List.all_eq_true.1 rfl) (fun w9 hp C9 => ?_)
  cases b <;> refine so ?_
  ·exact Pt ⟨_, rfl, rfl, hp.chg⟩
  ·refine Ce (row_put (o := 38) hp hR C9 hcs (by decide) (set_dig31 (rdTo hre mv)) (g4 _ (.inl hk3) rfl (dig31_at _))) ?_
   rintro _ w10 ⟨rfl, E10⟩
   refine so ?_
   exact Pt ⟨_, rfl, rfl, (hp.ext E10).chg⟩
 ·have hk3 : e.kind = 4 := hkind.trans hkk.symm
  refine so ?_
  refine aF (so ?_)
  refine aT (so ?_)
  refine wl_idxA (by decide) ar39 rfl rfl 31 rfl (by decide) (so ?_)
  refine wl_hstoreR (i := 0) (g := ga) (o := m * 53 + 38) (congrArg (fun p => some (Value.pointer (some p))) (hx 7 (31 * 1))) rfl hp rfl sz5 (by rw [hA, haa]) (by rw [hrl]; show m * 53 + 38 + 1 ≤ s.length * 53; omega) (show (1 : Nat) ≠ 0 by decide) (List.all_eq_true.1 rfl) (fun w9 hp C9 => ?_)
  cases b <;> refine so ?_
  ·exact Pt ⟨_, rfl, rfl, hp.chg⟩
  ·refine Ce (row_put (o := 38) hp hR C9 hcs (by decide) (set_dig31 (rdTo hre mv)) (g4 _ (.inr hk3) rfl (dig31_at _))) ?_
   rintro _ w10 ⟨rfl, E10⟩
   refine so ?_
   exact Pt ⟨_, rfl, rfl, (hp.ext E10).chg⟩
 ·have hk3 : e.kind = 3 := hkind.trans hkk.symm
  have hbl := gbl hk3
  refine so ?_
  refine aF (so ?_)
  refine aF (so ?_)
  refine aT ?_
  refine wc_seq ?_
  refine wc_region ?_
  iterate 5 refine st ?_
  refine aFe (p := aa.add (m * 53)) (by decide) rfl ?_
  refine aFf (p := aa.add (m * 53)) (k := 39) (k' := 44) (by decide) rfl hat rfl ?_
  refine aLe (p := aa.add (m * 53)) (k := 44) (by decide) rfl hat rfl ?_
  iterate 2 refine st ?_
  refine aFe (p := aa.add (m * 53)) (by decide) rfl ?_
  refine aFf (p := aa.add (m * 53)) (k := 39) (k' := 44) (by decide) rfl hat rfl ?_
  refine wl_hstoreR (i := 0) (g := ga) (o := m * 53 + 44) (congrArg (fun p => some (Value.pointer (some p))) (hcell 44)) rfl hp rfl sz3 (by rw [hA, haa]) (by rw [hrl]; show m * 53 + 44 + 1 ≤ s.length * 53; omega) (show (1 : Nat) ≠ 0 by decide) (List.all_eq_true.1 rfl) (fun w9 hp C9 => ?_)
  cases b <;> refine so ?_
  ·exact Pt ⟨_, rfl, rfl, hp.chg⟩
  ·refine Ce (row_put (o := 44) hp hR C9 hcs (by decide) (set_block (by unfold i64; omega) (rdTo hre mv)) (g5 hk3 rfl)) ?_
   rintro _ w10 ⟨rfl, E10⟩
   refine so ?_
   exact Pt ⟨_, rfl, rfl, (hp.ext E10).chg⟩
 ·have hk3 : e.kind = 2 := hkind.trans hkk.symm
  refine so ?_
  refine aF (so ?_)
  refine aF (so ?_)
  refine aF (so ?_)
  refine aT ?_
  refine wc_seq ?_
  refine wc_seq ?_
  refine wc_region ?_
  iterate 3 refine st ?_
  refine aFe (p := aa.add (m * 53)) (by decide) rfl ?_
  refine aFf (p := aa.add (m * 53)) (k := 39) (k' := 43) (by decide) rfl hat rfl ?_
  refine aLe (p := aa.add (m * 53)) (k := 43) (by decide) rfl hat rfl ?_
  refine wl_neq (by decide) rfl rfl (so ?_)
  refine Cd ?_ ?_ <;> intro q2 <;> refine so ?_
  ·exact Pt ⟨_, rfl, rfl, hp.chg⟩
  refine Ce (ldata_ok (b := 200)) ?_
  rintro _ w9 ⟨Ad, cd, rfl, hd9, E9⟩
  obtain ⟨F9, hp, s9, n9, _⟩ := hp.frz E9
  replace hd9 := hd9.mono (fun b hb h => n9 b h hb)
  have hR9 := (hR.ext E9).wid s9
  have hre9 := rdTo hre (F := F9) (w' := w9) ⟨E9.weak (fun _ _ x => x.elim), s9⟩
  replace hat := hat.ext E9
  refine st ?_
  refine aFe (p := aa.add (m * 53)) (by decide) rfl ?_
  refine aFf (p := aa.add (m * 53)) (k := 49) (k' := 50) (by decide) rfl hat rfl ?_
  refine wl_hstoreR (i := 0) (g := ga) (o := m * 53 + 50) (congrArg (fun p => some (Value.pointer (some p))) (hcell 50)) rfl hp rfl sz40 (by rw [hA, haa]) (by rw [hrl]; show m * 53 + 50 + 1 ≤ s.length * 53; omega) (show (1 : Nat) ≠ 0 by decide) (List.all_eq_true.1 rfl) (fun w10 hp C10 => so ?_)
  have f10 : Frz F9 F9 w9 w10 := mv
  refine Ce (row_put (o := 50) hp hR9 C10 hcs (by decide) (set_data (hd9.to f10) (rdTo hre9 f10)) (g11 hk3 (Decidable.not_not.1 q2))) ?_
  rintro _ w11 ⟨rfl, E11⟩
  refine so ?_
  exact Pt ⟨_, rfl, rfl, (hp.ext E11).chg⟩
 ·have hk3 : e.kind = 1 := hkind.trans hkk.symm
  have hst := gst hk3
  refine so ?_
  refine aF (so ?_)
  refine aF (so ?_)
  refine aF (so ?_)
  refine aF (sl ?_)
  refine wc_seq ?_
  refine wc_region ?_
  iterate 5 refine st ?_
  refine aFe (p := aa.add (m * 53)) (by decide) rfl ?_
  refine aFf (p := aa.add (m * 53)) (k := 39) (k' := 40) (by decide) rfl hat rfl ?_
  refine aLe (p := aa.add (m * 53)) (k := 40) (by decide) rfl hat rfl ?_
  iterate 2 refine st ?_
  refine aFe (p := aa.add (m * 53)) (by decide) rfl ?_
  refine aFf (p := aa.add (m * 53)) (k := 39) (k' := 40) (by decide) rfl hat rfl ?_
  refine wl_hstoreR (i := 0) (g := ga) (o := m * 53 + 40) (congrArg (fun p => some (Value.pointer (some p))) (hcell 40)) rfl hp rfl sz3 (by rw [hA, haa]) (by rw [hrl]; show m * 53 + 40 + 1 ≤ s.length * 53; omega) (show (1 : Nat) ≠ 0 by decide) (List.all_eq_true.1 rfl) (fun w9 hp C9 => so ?_)
  refine Ce (row_put (o := 40) hp hR C9 hcs (by decide) (set_stamp (by unfold i64; omega) (rdTo hre mv)) (g8 hk3)) ?_
  rintro _ w10 ⟨rfl, E10⟩
  refine so ?_
  exact Pt ⟨_, rfl, rfl, (hp.ext E10).chg⟩
end Go.Proofs.Ytgheaedligkhoaa
namespace Go.Proofs.Ytgheaedligkhoaa
open Go.ChangeShapes Go.WideShapes Go.ChangeAt Go.RowKit Go.Eng Go.Eng _root_.Go.Proofs.Try
set_option maxRecDepth 100000
variable {w0 w : World} {M0 Fz : Nat → Prop} {H : List It} {A : Option Addr} {c : Nat}
set_option maxRecDepth 100000 in
theorem judgeSpoilt_lifted (os : Os) (started : os.Started) (H : Type) (enc : TypeId × Value → H) :
    ReturnsInHanded {} Try.checked os 5 .any (Rows.judgeSpoiltSpec.pre6 enc Try.prog Try.f5 Rows.judgeSpoiltRow.domain false) (Rows.judgeSpoiltSpec.post enc Try.prog Try.f5 false true false false) := by
  refine law_lifted (C := Try.checked) Try.own started (by kernel_rfl) Try.func5
    (ChangeSpec.witness6 (enc := enc) (C := Try.checked) false ⟨#[], #[.slice none 0 0, .int .i64 0, .int .i64 0], []⟩ 8 (by kernel_rfl) (by kernel_rfl) (by kernel_rfl) (by kernel_rfl))
    Try.laidOut (by kernel_rfl) rfl rfl Try.underlying4 ?_ ?_
  · intro ds hq
    obtain ⟨d0, t0, e0, q0⟩ := spec_len (show ds.length = 3 from hq)
    obtain ⟨d1, t1, e1, q1⟩ := spec_len (show t0.length = 2 from q0)
    obtain ⟨d2, t2, e2, q2⟩ := spec_len (show t1.length = 1 from q1)
    have en := List.eq_nil_of_length_eq_zero (show t2.length = 0 from q2)
    subst en
    subst e2
    subst e1
    subst e0
    rfl
  · intro W base args ds h
    obtain ⟨l⟩ := args
    rw [Try.params5] at h
    obtain ⟨v0, l0, d0, ds0, rfl, h0, h⟩ := args_cons h
    obtain ⟨v1, l1, d1, ds1, rfl, h1, h⟩ := args_cons h
    obtain ⟨v2, l2, d2, ds2, rfl, h2, h⟩ := args_cons h
    obtain rfl := args_nil h
    clear h
    obtain ⟨A0, c0, l0, rfl, he0, hg0, hb0⟩ := arg_slice Try.underlying33 (reads_slice (size := 1) (bytes := 8) Try.underlying33 rfl (by decide) (by kernel_rfl) (by kernel_rfl) (by decide) (reads_int Try.underlying3)) h0
    obtain ⟨n1, rfl, lo1, hi1⟩ := arg_int Try.underlying3 h1
    obtain ⟨n2, rfl, lo2, hi2⟩ := arg_int Try.underlying3 h2
    exact judgeSpoilt_ok he0 hg0 ⟨lo1, hi1⟩ ⟨lo2, hi2⟩
theorem judgeSpoilt_holds : Rows.JudgeSpoiltSaid :=
 OpenClaim.holds_of_wide 5 Try.f5 rfl rfl rfl rfl rfl rfl rfl ⟨rfl, rfl, rfl, rfl, rfl⟩ rfl rfl rfl rfl rfl (by kernel_rfl) Try.func5 (by kernel_rfl)
  (of_decide_eq_true (by kernel_rfl)) (by unfold Func.isWrapper; first | (rw [if_pos (by decide +kernel)]; kernel_rfl) | (rw [if_neg (by decide +kernel)]; exact ⟨rfl, rfl⟩))
  (fun os started H enc _ => judgeSpoilt_lifted os started H enc)
end Go.Proofs.Ytgheaedligkhoaa
