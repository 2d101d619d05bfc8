/- What each of these functions computes, for every argument that its theorem names; a part of what the proof of NoteChecks stands on. -/
import Derived.Test.YtkdoomglflikkaaGreatCac
import Derived.Test.YtkdoomglflikkaaGreatCad
import Derived.Test.YtkdoomglflikkaaGreatCae
namespace Go.Proofs.YtkdoomglflikkaaGreat
open Go.RowKit Go.Eng Go.Eng _root_.Go.Proofs.Tryz
set_option maxRecDepth 100000
variable {w0 w : World} {M0 Fz : Nat → Prop} {H : List It} {A : Option Addr} {c : Nat}
def ansR : Rep Ans where
 size := 4
 rd := fun S w cs x => AnsI x ∧ ∃ A0 c0 A1 c1, cs = [.int .i64 x.err, .slice A0 x.data.length c0, .int .i64 x.epoch, .slice A1 x.nodes.length c1] ∧ GS byteR S w A0 c0 x.data ∧ GS intR S w A1 c1 x.nodes
 len := by rintro _ _ _ _ ⟨hI, A0, c0, A1, c1, rfl, k0, k1⟩; rfl
 one := by rintro _ _ _ _ ⟨hI, A0, c0, A1, c1, rfl, k0, k1⟩; exact List.all_eq_true.1 rfl
 keep := by rintro _ _ _ _ _ _ ch hm ⟨hI, A0, c0, A1, c1, rfl, k0, k1⟩; exact ⟨hI, _, _, _, _, rfl, k0.keep ch hm, k1.keep ch hm⟩
 mono := by rintro _ _ _ _ _ hs ⟨hI, A0, c0, A1, c1, rfl, k0, k1⟩; exact ⟨hI, _, _, _, _, rfl, k0.mono hs, k1.mono hs⟩
theorem NteI.change {n : Nte} (h : NteI n) : ChnI n.change := by unfold NteI i64 at h; unfold ChnI i64; omega
end Go.Proofs.YtkdoomglflikkaaGreat
namespace Go.Proofs.YtkdoomglflikkaaGreat
open Go.ChangeShapes Go.WideShapes Go.ChangeAt Go.RowKit Go.Eng Go.Eng _root_.Go.Proofs.Tryz
set_option maxRecDepth 100000
variable {w0 w : World} {M0 Fz : Nat → Prop} {H : List It} {A : Option Addr} {c : Nat}
theorem reads_t23 : ReadsR Tryz.prog 23 digR (fun _ => True) := reads_digest (e := 5) Tryz.underlying23 Tryz.underlying5 Tryz.ce5 Tryz.ce23
theorem reads_t27 : ReadsR Tryz.prog 27 (sliceR intR) (fun l => l.length * 8 ≤ 140737488355328) := fun H enc w base sp held fuel cs x h hl hw => by
 obtain ⟨v, h1, h2⟩ := reads_slice (size := 1) (bytes := 8) Tryz.underlying27 rfl (by decide) Tryz.ce3 Tryz.by3 (by decide) (reads_int Tryz.underlying3) H enc w base sp held fuel cs x h hl hw
 exact ⟨v, h1, h2.2⟩
end Go.Proofs.YtkdoomglflikkaaGreat
namespace Go.Proofs.YtkdoomglflikkaaGreat
open Go.RowKit Go.Eng Go.Eng _root_.Go.Proofs.Tryz
set_option maxRecDepth 100000
variable {w0 w : World} {M0 Fz : Nat → Prop} {H : List It} {A : Option Addr} {c : Nat}
theorem takeNum_ok {b : List UInt8} {Sa : Nat → Prop} (h : BS Sa w A c b) : Ret prog 193 #[.slice A b.length c] w (fun v w' => ∃ A' c', v = .tuple #[.int .i64 (takeS b).1, .slice A' (takeS b).2.1.length c', .int .i64 (takeS b).2.2] ∧ OwnB 5 w.heap.size w' A' c' (takeS b).2.1 ∧ Ext w w') := by
 refine ret_of_wk func193 rfl ntmps193 leB_ ?_
 refine go ?_
 refine Ln_ underlying26 rfl ?_
 refine Eq_ rfl rfl (go ?_)
 refine Cd (fun h0 => ?_) fun h0 => ?_
 have hb0 : b = [] := List.eq_nil_of_length_eq_zero (by omega)
 subst hb0
 refine go ?_
 refine wk_post3 (.inl rfl) results193 rfl rfl rfl ?_
 exact ⟨_, rfl, none, 0, by rw [show takeS [] = (0, [], 3) from rfl]; try rfl, by rw [show takeS [] = (0, [], 3) from rfl]; exact OwnRow.nil _ _ _ _ _, Chg.refl _ _⟩
 obtain ⟨x, t, rfl⟩ := List.exists_cons_of_ne_nil (show b ≠ [] by rintro rfl; simp at h0)
 have hx : x.toNat < 256 := x.toNat_lt
 refine go ?_
 refine wc_drawL [SP.eq (.slice A (x :: t).length c), SP.ptr (fun _ => True) [bv x], SP.eq (bv x), SP.eq (iv (x.toNat : Int)), SP.eq (.slice A (x :: t).length c), SP.gs byteR Sa t, SP.eq (iv (x.toNat : Int)), SP.gs byteR Sa t] (by kernel_rfl) (by kernel_rfl) ⟨?_, ?_, ?_, ?_, ?_, ?_, ?_, ?_, trivial⟩ ?_
 intro F wF hER hk
 have e0:=hk.init 0 _ rfl (by kernel_rfl)
 refine Mv_ e0 ?_
 exact qz ⟨Chg.refl _ _, rfl⟩
 intro F wF hER hk
 obtain ⟨u11, e11, h11⟩ := hk.pred 0 (by kernel_rfl) 11 rfl
 obtain rfl := h11
 refine wl_idx (r := byteR) (by decide) sl26 e11 rfl (h.ext hER) 0 rfl (by simp) ?_
 rintro a cs hb1 _ hat rfl
 exact qz ⟨Chg.refl _ _, a, rfl, hb1, trivial, hat⟩
 intro F wF hER hk
 obtain ⟨u12, e12, h12⟩ := hk.pred 1 (by kernel_rfl) 12 rfl
 obtain ⟨a12, rfl, _, _, hat12⟩ := h12
 refine Ld_ sc5 e12 hat12.head ?_
 exact qz ⟨Chg.refl _ _, rfl⟩
 intro F wF hER hk
 obtain ⟨u13, e13, h13⟩ := hk.pred 2 (by kernel_rfl) 13 rfl
 obtain rfl := h13
 refine wl_conv (by decide) it5 it3 e13 (w64 (by omega) (by omega)) ?_
 exact qz ⟨Chg.refl _ _, rfl⟩
 intro F wF hER hk
 have e0:=hk.init 0 _ rfl (by kernel_rfl)
 refine Mv_ e0 ?_
 exact qz ⟨Chg.refl _ _, rfl⟩
 intro F wF hER hk
 obtain ⟨u15, e15, h15⟩ := hk.pred 4 (by kernel_rfl) 15 rfl
 obtain rfl := h15
 refine wl_from (r := byteR) (by decide) sl26 e15 rfl (h.ext hER) 1 rfl (by simp) ?_
 rintro A1 c1 hg1
 exact qz ⟨Chg.refl _ _, A1, c1, rfl, hg1⟩
 intro F wF hER hk
 obtain ⟨u14, e14, h14⟩ := hk.pred 3 (by kernel_rfl) 14 rfl
 obtain rfl := h14
 refine wl_assign (by decide) e14 ?_
 exact qz ⟨Chg.refl _ _, rfl⟩
 intro F wF hER hk
 obtain ⟨u16, e16, h16⟩ := hk.pred 5 (by kernel_rfl) 16 rfl
 obtain ⟨A16, c16, rfl, hg16⟩ := h16
 refine wl_assign (by decide) e16 ?_
 exact qz ⟨Chg.refl _ _, A16, c16, rfl, hg16⟩
 intro F w1 hED hini hdo
 have e2:=di hini 2
 obtain ⟨u3, e3, h3⟩ := hdo 7 3 rfl
 obtain ⟨A3, c3, rfl, hg3⟩ := h3
 refine wk_drop [(2, _), (3, _), (5, _)] ⟨e2, e3, dq hdo 6, trivial⟩ ?_
 clear e2 e3 hini hdo
 have hx:=x.toNat_lt
 refine go ?_
 refine Gt_ rfl rfl (go ?_)
 refine Cd (fun h7 => ?_) fun h7 => ?_
 refine go ?_
 refine wk_post3 (.inl rfl) results193 rfl rfl rfl ?_
 have e : takeS (x :: t) = (0, [], 4) := by simp only [takeS]; rw [if_pos (by omega)]
 exact ⟨_, rfl, none, 0, by rw [e]; try rfl, by rw [e]; exact OwnRow.nil _ _ _ _ _, hED⟩
 refine go ?_
 refine Ln_ underlying26 rfl (go ?_)
 refine Ls_ rfl rfl (go ?_)
 refine Cd (fun hlen => ?_) fun hlen => ?_
 refine go ?_
 refine wk_post3 (.inl rfl) results193 rfl rfl rfl ?_
 have e : takeS (x :: t) = (0, [], 3) := by simp only [takeS]; rw [if_neg (by omega), if_pos (by omega)]
 exact ⟨_, rfl, none, 0, by rw [e]; try rfl, by rw [e]; exact OwnRow.nil _ _ _ _ _, hED⟩
 refine wc_seq_cut (fun L' w' => ∃ (q : Bool), L' = [(2, iv 0), (3, .slice A3 t.length c3), (5, iv (x.toNat : Int)), (25, .bool q)] ∧ (w1 = w') ∧ (q = true ↔ (0 < x.toNat ∧ t.headD 1 = 0))) (fun K hK => ?_) ?_
 refine go ?_
 refine Gt_ rfl rfl (go ?_)
 refine Gs 28 (fun hpos => ?_) fun hpos => ?_
 have ht0 : 0 < t.length := by first | omega | (simp only [List.length_cons] at hlen; omega)
 have hhd : t.headD 1 = t[0] := by cases t with
   | nil => simp at ht0
   | cons y s => rfl
 refine go ?_
 refine wl_idx (r := byteR) (by decide) sl26 rfl rfl hg3 0 rfl ht0 ?_
 rintro a4 cs4 hb4 _ hat4 rfl
 refine go ?_
 refine Ld_ sc5 rfl hat4.head (go ?_)
 refine Eq_ rfl rfl (gl ?_)
 refine wk_drop [(2, iv 0), (3, .slice A3 t.length c3), (5, iv (x.toNat : Int)), (25, .bool _)] ⟨rfl, rfl, rfl, rfl, trivial⟩ (hK _ _ ?_)
 refine ⟨_, rfl, ?_, ?_⟩
 rfl
 simp only [decide_eq_true_eq]; rw [hhd]; exact ⟨fun e => ⟨by omega, UInt8.toNat_inj.1 (show (t[0]).toNat = 0 by omega)⟩, fun e => by rw [e.2]; rfl⟩
 refine gl ?_
 refine wk_drop [(2, iv 0), (3, .slice A3 t.length c3), (5, iv (x.toNat : Int)), (25, .bool _)] ⟨rfl, rfl, rfl, rfl, trivial⟩ (hK _ _ ?_)
 refine ⟨_, rfl, ?_, ?_⟩
 rfl
 exact ⟨fun e => (by cases e), fun e => (by omega)⟩
 rintro _ w2 ⟨q, rfl, hw, hq⟩
 subst hw
 refine Cd (fun hq2 => ?_) fun hq2 => ?_
 rw [hq] at hq2
 refine go ?_
 refine wk_post3 (.inl rfl) results193 rfl rfl rfl ?_
 have e : takeS (x :: t) = (0, [], 4) := by simp only [takeS]; rw [if_neg (by omega), if_neg (by omega), if_pos hq2]
 exact ⟨_, rfl, none, 0, by rw [e]; try rfl, by rw [e]; exact OwnRow.nil _ _ _ _ _, hED⟩
 have hq3 : ¬ (0 < x.toNat ∧ t.headD 1 = 0) := fun e => by rw [hq.2 e] at hq2; cases hq2
 refine go ?_
 refine wl_to (r := byteR) (by decide) sl26 rfl rfl hg3 x.toNat rfl (by omega) ?_
 intro hgt
 have htl : (t.take x.toNat).length = x.toNat := by rw [List.length_take]; omega
 have hmt:=hgt.mx
 refine Ln_ underlying26 rfl (go ?_)
 refine wc_loop (fun L' w' mes => ∃ (k : Nat), L' = [(2, iv (valD ((t.take x.toNat).take k) : Int)), (3, .slice A3 t.length c3), (5, iv (x.toNat : Int)), (36, .slice A3 (t.take x.toNat).length c3), (37, iv ((t.take x.toNat).length : Int)), (38, iv (k : Int))] ∧ (k ≤ (t.take x.toNat).length) ∧ (w1 = w') ∧ (t.take x.toNat).length - k = mes) [(2, iv (valD ((t.take x.toNat).take 0) : Int)), (3, .slice A3 t.length c3), (5, iv (x.toNat : Int)), (36, .slice A3 (t.take x.toNat).length c3), (37, iv ((t.take x.toNat).length : Int)), (38, iv (0 : Int))] ((t.take x.toNat).length - 0) (by
     refine ⟨0, rfl, ?_, ?_, rfl⟩
     · omega
     · rfl) ⟨rfl, rfl, rfl, rfl, rfl, rfl, trivial⟩ ?_
 rintro _ wr _ ⟨k, rfl, hk, hw, rfl⟩ KL1 hKL1
 subst hw
 refine go ?_
 refine Ls_ rfl rfl (go ?_)
 refine Cd (fun hlt => ?_) fun hlt => ?_
 refine go ?_
 refine wl_idx (r := byteR) (by decide) sl26 rfl rfl hgt k rfl (by omega) ?_
 rintro a5 cs5 hb5 _ hat5 rfl
 refine Ld_ sc5 rfl hat5.head (go ?_)
 have hvs:=valD_take (t.take x.toNat) k (by omega)
 have hvl:=valD_take_lt (t.take x.toNat) k 6 (by omega)
 have hby:=((t.take x.toNat)[k]'(by omega)).toNat_lt
 refine wl_shl (by decide) rfl rfl (by omega) (shl8 _ (by omega)) ?_
 refine go ?_
 refine wl_conv (by decide) it5 it3 rfl (w64 (by omega) (by omega)) ?_
 refine wl_or (by decide) rfl rfl (or256 _ _ (by omega) (by omega)) ?_
 refine go ?_
 refine wl_add (by decide) rfl rfl (w64 (by omega) (by omega)) (gl ?_)
 refine wk_drop [(2, iv (valD ((t.take x.toNat).take (k + 1)) : Int)), (3, .slice A3 t.length c3), (5, iv (x.toNat : Int)), (36, .slice A3 (t.take x.toNat).length c3), (37, iv ((t.take x.toNat).length : Int)), (38, iv ((k + 1) : Int))] ⟨(by rw [hvs]; rfl), rfl, rfl, rfl, rfl, rfl, trivial⟩ (hKL1 _ _ (m2 := (t.take x.toNat).length - (k + 1)) ?_ ?_)
 refine ⟨(k + 1), rfl, ?_, ?_, rfl⟩
 omega
 rfl
 omega
 have hkl : k = (t.take x.toNat).length := by omega
 subst hkl
 rw [List.take_length]
 refine go ?_
 refine Gt_ rfl rfl (go ?_)
 refine Cd (fun hmax => ?_) fun hmax => ?_
 refine go ?_
 refine wk_post3 (.inl rfl) results193 rfl rfl rfl ?_
 have e : takeS (x :: t) = (0, [], 9) := by simp only [takeS]; rw [if_neg (by omega), if_neg (by omega), if_neg hq3, if_pos (by omega)]
 exact ⟨_, rfl, none, 0, by rw [e]; try rfl, by rw [e]; exact OwnRow.nil _ _ _ _ _, hED⟩
 refine go ?_
 refine wl_from (r := byteR) (by decide) sl26 rfl rfl hg3 x.toNat rfl (by omega) ?_
 rintro A6 c6 hg6
 refine Cl_ cl199 rfl (cloneB_ok hg6) ?_
 rintro _ w7 ⟨A7, c7, rfl, ho7, hE7⟩
 refine go ?_
 refine wk_post3 (.inl rfl) results193 rfl rfl rfl ?_
 have e : takeS (x :: t) = ((valD (t.take x.toNat) : Int), t.drop x.toNat, 0) := by simp only [takeS]; rw [if_neg (by omega), if_neg (by omega), if_neg hq3, if_neg (by omega)]
 exact ⟨_, rfl, A7, c7, by rw [e], by rw [e]; exact ho7.lower hED.size, hED.trans hE7⟩
theorem takeFix_ok {b : List UInt8} {n : Int} {Sa : Nat → Prop} (h : BS Sa w A c b) (h1 : -9223372036854775808 ≤ n) (h2 : n ≤ 9223372036854775807) : Ret prog 191 #[.slice A b.length c, .int .i64 n] w (fun v w' => ∃ A1 c1 A2 c2, v = .tuple #[.slice A1 (fixS b n).1.length c1, .slice A2 (fixS b n).2.1.length c2, .int .i64 (fixS b n).2.2] ∧ OwnB 5 w.heap.size w' A1 c1 (fixS b n).1 ∧ OwnB 5 w.heap.size w' A2 c2 (fixS b n).2.1 ∧ Ext w w') := by
 refine ret_of_wk func191 rfl ntmps191 leB_ ?_
 refine so ?_
 refine Cd ?_ ?_<;>intro h0<;>refine so ?_
 refine wk_post3 (.inl rfl) results191 rfl rfl rfl ?_
 have e : fixS b n = ([], [], 2) := by simp only [fixS]; rw [if_pos (by omega)]
 exact ⟨_, rfl, none, 0, none, 0, by rw [e]; try rfl, by rw [e]; exact OwnRow.nil _ _ _ _ _, by rw [e]; exact OwnRow.nil _ _ _ _ _, Chg.refl _ _⟩
 refine Cd ?_ ?_<;>intro hl<;>refine so ?_
 refine wk_post3 (.inl rfl) results191 rfl rfl rfl ?_
 have e : fixS b n = ([], [], 3) := by simp only [fixS]; rw [if_neg (by omega), if_pos (by omega)]
 exact ⟨_, rfl, none, 0, none, 0, by rw [e]; try rfl, by rw [e]; exact OwnRow.nil _ _ _ _ _, by rw [e]; exact OwnRow.nil _ _ _ _ _, Chg.refl _ _⟩
 refine wc_drawL [SP.eq (.slice A b.length c), SP.eq (iv n), SP.gs byteR Sa (b.take n.toNat), SP.own 5 1 w.heap.size (b.take n.toNat).length ((b.take n.toNat).map bv), SP.eq (.slice A b.length c), SP.eq (iv n), SP.gs byteR Sa (b.drop n.toNat), SP.own 5 1 w.heap.size (b.drop n.toNat).length ((b.drop n.toNat).map bv), SP.own 5 1 w.heap.size (b.take n.toNat).length ((b.take n.toNat).map bv), SP.own 5 1 w.heap.size (b.drop n.toNat).length ((b.drop n.toNat).map bv), SP.eq (iv 0)] (by kernel_rfl) (by kernel_rfl) ⟨?_, ?_, ?_, ?_, ?_, ?_, ?_, ?_, ?_, ?_, ?_, trivial⟩ ?_
 intro F wF hER hk
 have e0:=hk.init 0 _ rfl (by kernel_rfl)
 refine Mv_ e0 ?_
 exact qz ⟨Chg.refl _ _, rfl⟩
 intro F wF hER hk
 have e1:=hk.init 1 _ rfl (by kernel_rfl)
 refine Mv_ e1 ?_
 exact qz ⟨Chg.refl _ _, rfl⟩
 intro F wF hER hk
 obtain ⟨u15, e15, h15⟩ := hk.pred 0 (by kernel_rfl) 15 rfl
 obtain rfl := h15
 obtain ⟨u16, e16, h16⟩ := hk.pred 1 (by kernel_rfl) 16 rfl
 obtain rfl := h16
 refine wl_to (r := byteR) (by decide) sl26 e15 e16 (h.ext hER) n.toNat (by omega) (by omega) ?_
 intro hg1
 exact qz ⟨Chg.refl _ _, A, c, rfl, hg1⟩
 intro F wF hER hk
 obtain ⟨u17, e17, h17⟩ := hk.pred 2 (by kernel_rfl) 17 rfl
 obtain ⟨A15, c15, rfl, hg15⟩ := h17
 refine Cl_ cl199 (by simp only [evs, ev, e17]) (cloneB_ok hg15) ?_
 rintro _ w7 ⟨A7, c7, rfl, ho7, hE7⟩
 exact qz ⟨hE7, A7, c7, rfl, ho7.lower hER.size⟩
 intro F wF hER hk
 have e0:=hk.init 0 _ rfl (by kernel_rfl)
 refine Mv_ e0 ?_
 exact qz ⟨Chg.refl _ _, rfl⟩
 intro F wF hER hk
 have e1:=hk.init 1 _ rfl (by kernel_rfl)
 refine Mv_ e1 ?_
 exact qz ⟨Chg.refl _ _, rfl⟩
 intro F wF hER hk
 obtain ⟨u19, e19, h19⟩ := hk.pred 4 (by kernel_rfl) 19 rfl
 obtain rfl := h19
 obtain ⟨u20, e20, h20⟩ := hk.pred 5 (by kernel_rfl) 20 rfl
 obtain rfl := h20
 refine wl_from (r := byteR) (by decide) sl26 e19 e20 (h.ext hER) n.toNat (by omega) (by omega) ?_
 rintro A1 c1 hg1
 exact qz ⟨Chg.refl _ _, A1, c1, rfl, hg1⟩
 intro F wF hER hk
 obtain ⟨u21, e21, h21⟩ := hk.pred 6 (by kernel_rfl) 21 rfl
 obtain ⟨A19, c19, rfl, hg19⟩ := h21
 refine Cl_ cl199 (by simp only [evs, ev, e21]) (cloneB_ok hg19) ?_
 rintro _ w7 ⟨A7, c7, rfl, ho7, hE7⟩
 exact qz ⟨hE7, A7, c7, rfl, ho7.lower hER.size⟩
 intro F wF hER hk
 obtain ⟨u18, e18, h18⟩ := hk.pred 3 (by kernel_rfl) 18 rfl
 obtain ⟨A16, c16, rfl, ho16⟩ := h18
 refine wl_assign (by decide) e18 ?_
 exact qz ⟨Chg.refl _ _, A16, c16, rfl, ho16⟩
 intro F wF hER hk
 obtain ⟨u22, e22, h22⟩ := hk.pred 7 (by kernel_rfl) 22 rfl
 obtain ⟨A20, c20, rfl, ho20⟩ := h22
 refine wl_assign (by decide) e22 ?_
 exact qz ⟨Chg.refl _ _, A20, c20, rfl, ho20⟩
 intro F wF hER hk
 refine so ?_
 exact qr_some ⟨Chg.refl _ _, rfl⟩
 intro F wD hED hini hdo
 obtain ⟨u4, e4, h4⟩ := hdo 8 4 rfl
 obtain ⟨A4, c4, rfl, ho4⟩ := h4
 obtain ⟨u5, e5, h5⟩ := hdo 9 5 rfl
 obtain ⟨A5, c5, rfl, ho5⟩ := h5
 refine wk_drop [(4, _), (5, _), (6, _)] ⟨e4, e5, dq hdo 10, trivial⟩ ?_
 clear e4 e5 hini hdo
 refine so ?_
 refine wk_post3 (.inl rfl) results191 rfl rfl rfl ?_
 have e : fixS b n = (b.take n.toNat, b.drop n.toNat, 0) := by simp only [fixS]; rw [if_neg (by omega), if_neg (by omega)]
 exact ⟨_, rfl, A4, c4, A5, c5, by rw [e], by rw [e]; exact ho4, by rw [e]; exact ho5, hED⟩
set_option maxHeartbeats 4000000 in
theorem r12_view {n : Int} {w : World}  : Ret Tryz.prog 89 #[.int .i64 n] w (fun v w' => v = .bool (decide (isView n)) ∧ w' = w) := by
 refine ret_of_wk Tryz.func89 rfl Tryz.ntmps89 (Nat.le_of_ble_eq_true rfl) ?_
 refine wc_seq ?_
 refine wc_region ?_
 refine wl_assign (by decide) rfl ?_
 refine wl_nil ?_
 refine wk_norm ?_
 refine wc_seq ?_
 refine wc_region ?_
 refine wl_move (by decide) rfl ?_
 refine wl_call (by decide) Tryz.cl52 rfl (r12_within) ?_
 rintro _ _ ⟨rfl, rfl⟩
 refine wl_assign (by decide) rfl ?_
 refine wl_nil ?_
 refine wk_norm ?_
 refine wc_ret ?_
 refine wk_post1 (.inl rfl) Tryz.results89 rfl ?_
 exact ⟨_, rfl, congrArg Value.bool (decide_eq_decide.2 (by unfold isView; omega)), rfl⟩
set_option maxHeartbeats 4000000 in
theorem n_isClient {n : Int} {w : World}  : Ret Tryz.prog 101 #[.int .i64 n] w (fun v w' => v = .bool (decide (31 ≤ n ∧ n ≤ 34)) ∧ w' = w) := by
 refine ret_of_wk Tryz.func101 rfl Tryz.ntmps101 (Nat.le_of_ble_eq_true rfl) ?_
 refine wc_seq ?_
 refine wc_region ?_
 refine wl_assign (by decide) rfl ?_
 refine wl_nil ?_
 refine wk_norm ?_
 refine wc_seq ?_
 refine wc_region ?_
 refine wl_move (by decide) rfl ?_
 refine wl_call (by decide) Tryz.cl62 rfl (n_within) ?_
 rintro _ _ ⟨rfl, rfl⟩
 refine wl_assign (by decide) rfl ?_
 refine wl_nil ?_
 refine wk_norm ?_
 refine wc_ret ?_
 refine wk_post1 (.inl rfl) Tryz.results101 rfl ?_
 exact ⟨_, rfl, congrArg Value.bool (decide_eq_decide.2 (by omega)), rfl⟩
set_option maxHeartbeats 4000000 in
theorem n_isSeq {n : Int} {w : World}  : Ret Tryz.prog 104 #[.int .i64 n] w (fun v w' => v = .bool (decide (isSeq n)) ∧ w' = w) := by
 refine ret_of_wk Tryz.func104 rfl Tryz.ntmps104 (Nat.le_of_ble_eq_true rfl) ?_
 refine wc_seq ?_
 refine wc_region ?_
 refine wl_assign (by decide) rfl ?_
 refine wl_nil ?_
 refine wk_norm ?_
 refine wc_seq ?_
 refine wc_region ?_
 refine wl_move (by decide) rfl ?_
 refine wl_call (by decide) Tryz.cl62 rfl (n_within) ?_
 rintro _ _ ⟨rfl, rfl⟩
 refine wl_assign (by decide) rfl ?_
 refine wl_nil ?_
 refine wk_norm ?_
 refine wc_ret ?_
 refine wk_post1 (.inl rfl) Tryz.results104 rfl ?_
 exact ⟨_, rfl, congrArg Value.bool (decide_eq_decide.2 (by unfold isSeq; omega)), rfl⟩
theorem plain8_iff {a b : Wsh} : plain8 a = plain8 b ↔ a.client = b.client ∧ a.stamp = b.stamp ∧ a.group = b.group ∧ a.epoch = b.epoch ∧ a.kind = b.kind ∧ a.block = b.block ∧ a.old = b.old ∧ a.new = b.new := by simp [plain8]
theorem SameL.lens {a b : Nte} (h : SameL a b) : a.changes.length = b.changes.length ∧ a.picks.length = b.picks.length ∧ a.digs.length = b.digs.length := by obtain ⟨h1, h2, h3, _⟩ := h; rw [h1, h2, h3]; exact ⟨rfl, rfl, rfl⟩
def WQ (w : Wsh) : Prop := 0 ≤ w.epoch ∧ w.epoch ≤ 1048576 ∧ w = ownW w ∧ (w.kind = 5 ∨ (31 ≤ w.client ∧ w.client ≤ 34 ∧ 1 ≤ w.stamp ∧ w.stamp ≤ 9007199254740991))
instance (l : List Int) : Decidable (RiseI l) := by unfold RiseI; infer_instance
set_option maxHeartbeats 40000000 in
theorem nRise_ok {Al : Option Addr} {cl : Nat} {l : List Int} {Sl : Nat → Prop} (hl : GS intR Sl w Al cl l) : Ret prog 93 #[.slice Al l.length cl] w (fun v w' => v = .bool (decide (RiseI l)) ∧ Ext w w') := by
 have mhl:=hl.mx
 refine ret_of_wk func93 rfl ntmps93 leB_ ?_
 refine so ?_
 refine Lp [0, 3] (fun L' w' mes => ∃ (k : Nat), L' = [(0, .slice Al l.length cl), (3, iv (k : Int))] ∧ (1 ≤ k) ∧ (∀ i, i < k → 0 < i → l.getD (i - 1) 0 < l.getD i 0) ∧ (GS intR Sl w' Al cl l) ∧ (Ext w w') ∧ l.length - k = mes) (l.length - 1) (by
     refine ⟨1, rfl, by omega, ?_, hl, me, rfl⟩
     intro i hi; omega) ?_
 rintro _ wr _ ⟨k, rfl, h1, hall, hl, hEc, rfl⟩ KL1 hKL1
 refine so ?_
 refine Cd ?_ ?_<;>intro hc1<;>refine so ?_
 obtain ⟨aw2, hAw2, hatw2⟩ := GS.elI hl k (by omega)
 obtain ⟨aw7, hAw7, hatw7⟩ := GS.elI hl (k - 1) (by omega)
 cases Option.some.inj (hAw2.symm.trans hAw7)
 refine wdE 10 (fun wD hED => by refine pm ?_; exact .op rfl (wl_idx0 (by decide) sl27 rfl rfl hAw7 (k - 1) (by omega) (by omega) (wl_nil qp)) pl) fun wD hED => ?_
 refine so ?_
 refine Cd ?_ ?_<;>intro hc2<;>refine so ?_
 refine Pt ?_
 exact ⟨_, rfl, bool_f (fun h => by have := h k (by omega) (by omega); omega), me⟩
 exact Kl [0, 3] hKL1 (l.length - (k + 1)) ⟨(k + 1), rfl, by omega, upto hall (fun _ => by omega), hl.to, me, rfl⟩ (by omega)
 refine Pt ?_
 exact ⟨_, rfl, bool_t (fun i hi => hall i (by omega)), hEc⟩
theorem t0_cmpI_ok {p : Prop} (h : p := by unfold cmpI; repeat (first | omega | split)) : p := h
set_option maxHeartbeats 40000000 in
theorem cmpI_ok {x : Int} {y : Int}  : Ret prog 149 #[.int .i64 x, .int .i64 y] w (fun v w' => v = .int .i64 (cmpI x y) ∧ w' = w) := by
 refine ret_of_wk func149 rfl ntmps149 leB_ ?_
 refine so ?_
 refine Cs (isNaN_ok) ?_
 refine so ?_
 refine Cs (isNaN_ok) ?_
 refine so ?_
 refine Cd ?_ ?_<;>intro hna
 exact hna.elim
 refine so ?_
 refine Cd ?_ ?_<;>intro hnb
 exact hnb.elim
 refine so ?_
 refine Cd ?_ ?_<;>intro hc3<;>refine so ?_
 ·refine Pt ?_
  exact ⟨_, rfl, by exact congrArg (Value.int .i64) t0_cmpI_ok, rfl⟩
 refine Cd ?_ ?_<;>intro hc4<;>refine so ?_
 ·refine Pt ?_
  exact ⟨_, rfl, by exact congrArg (Value.int .i64) t0_cmpI_ok, rfl⟩
 refine Pt ?_
 exact ⟨_, rfl, by exact congrArg (Value.int .i64) t0_cmpI_ok, rfl⟩
def ordS (a b : Stn) : Int := orI [cmpI a.seq b.seq, cmpI a.view b.view, Lib.compareBytes a.dig.l b.dig.l]
def SeenF (f : Value → Option Value) (l : List Stn) : Prop := ∀ s g, f (keyM s g) = if cntM l s g = 0 then none else some (.int .i64 (cntM l s g : Nat))
theorem CntF.step {f : Value → Option Value} {l : List Stn} (h : CntF f l) (x : Stn) : CntF (updF f (.int .i64 x.seq) (.int .i64 ((cntQ l x.seq : Nat) + 1))) (l ++ [x]) := by
 intro s
 rw [cntQ_snoc]
 by_cases e : x.seq = s
 ·subst e; rw [updF_same]; simp
 ·rw [updF_other f (fun he => e (by injection he with _ he; exact he.symm)), if_neg e, Nat.add_zero]; exact h s
theorem cmpI_lt (x y : Int) : (cmpI x y < 0 ↔ x < y) ∧ (cmpI x y = 0 ↔ x = y) := by unfold cmpI; constructor <;> (split <;> (try split) <;> omega)
theorem mseq_len {cg : Chn} {k : Nat} (h : k ≤ cg.marks.length) : (mseq cg k).length = k := by unfold mseq; rw [List.length_map, List.length_take]; omega
theorem rise_last {l : List Int} (h : RiseI l) : ∀ d i, i + d < l.length → l.getD i 0 ≤ l.getD (i + d) 0
 | 0, i, _ => Int.le_refl _
 | d + 1, i, hi => by
  have h1 := rise_last h d i (by omega)
  have h2 := h (i + (d + 1)) hi (by omega)
  rw [show i + (d + 1) - 1 = i + d by omega] at h2
  omega
theorem mnode_len {n : Nte} {k : Nat} (h : k ≤ n.changes.length) : (mnode n k).length = k := by unfold mnode; rw [List.length_map, List.length_take]; omega
theorem nodesR_iff {l : List Int} : NodesRise l ↔ RiseI l ∧ ¬ ∃ x ∈ l, ¬ (1 ≤ x ∧ x ≤ 28) := by
 constructor
 ·intro h
  exact ⟨fun i hi h0 => (h i hi).2.2 h0, fun ⟨x, hx, hn⟩ => hn (h.mem x hx)⟩
 ·rintro ⟨h1, h2⟩ i hi
  have h3 : 1 ≤ l.getD i 0 ∧ l.getD i 0 ≤ 28 := Decidable.byContradiction fun hn => h2 ⟨_, getD_mem hi, hn⟩
  exact ⟨h3.1, h3.2, fun h0 => h1 i hi h0⟩
theorem flat_takeD {α : Type} (E : α → List UInt8) (l : List α) (k : Nat) (z : α) (hk : k < l.length) : flatE E (l.take (k + 1)) = flatE E (l.take k) ++ E (l.getD k z) := by
 rw [flat_take E l k hk, List.getD_eq_getElem?_getD, List.getElem?_eq_getElem hk]; rfl
theorem parse_some {l lR : List UInt8} {eR e2 : Int} {x : Wsh} (h : StepP wishP (some l) (rst (decide (eR ≠ 0)) lR) x) (hen : e2 = if eR = 0 ∧ 0 < lR.length then 4 else eR) (h2 : e2 = 0) : parseS l = if WishMay x then some x else none := by
 have h0 := (end_E hen).1 h2
 rw [h0] at h
 have h1 : wishP l = some (x, []) := h
 unfold parseS
 rw [h1]
 by_cases hm : WishMay x <;> simp [hm]
def UnbR (l : List UInt8) (x : List Wsh) (e : Int) : Prop := (e = 0 ∧ unbS l = some x) ∨ (e ≠ 0 ∧ unbS l = none ∧ x = [])
theorem unb_some {l lR : List UInt8} {eR e2 : Int} {x : List Wsh} (h : StepP blistP (some l) (rst (decide (eR ≠ 0)) lR) x) (hen : e2 = if eR = 0 ∧ 0 < lR.length then 4 else eR) (h2 : e2 = 0) : unbS l = some x := by
 have h0 := (end_E hen).1 h2
 rw [h0] at h
 have h1 : blistP l = some (x, []) := h
 unfold unbS
 rw [h1]
 exact if_pos rfl
theorem read_ok {l lR : List UInt8} {b ok : Bool} {x : Nte} (h : StepP noteP (some l) (rst b lR) x) (hb : b = false) (ho : ok = decide ((lR.length : Int) = 0)) : ReadR l x ok := by
 subst hb ho
 have h1 : noteP l = some (x, lR) := h
 refine ⟨fun hh => ?_, fun hh y => ?_⟩
 ·have h2 := of_decide_eq_true hh
  rw [h1, List.eq_nil_of_length_eq_zero (show lR.length = 0 by omega)]
 ·have h2 := of_decide_eq_false hh
  rw [h1]
  intro h3
  simp only [Option.some.injEq, Prod.mk.injEq] at h3
  rw [h3.2] at h2
  exact h2 rfl
theorem pack_no {x y : Nte} {e : Bool} (hm : MayN x) (h : ReadR (noteE x) y e) (hn : ¬ (e = true ∧ x = y)) : packS x = ([], 2) := by
 unfold packS
 refine if_neg (fun hp => hn ?_)
 have h0 := read_own (may_fine hm).1
 cases e with
 | false => exact absurd h0 (h.2 rfl _)
 | true =>
  have h1 := h.1 rfl
  rw [h0, hp.2] at h1
  simp only [Option.some.injEq, Prod.mk.injEq, and_true] at h1
  exact ⟨rfl, h1⟩
def stdQ : List Stn := [⟨5, dgt 1, 2⟩, ⟨6, dgt 4, 1⟩, ⟨6, dgt 3, 2⟩, ⟨12, dgt 2, 0⟩]
theorem pm_few {n : Nte} (h : PackMay n) : n.changes.length * 96 ≤ 140737488355328 := by
 have h1 := read_own (may_fine h.1).1
 have h2 := changes_few h1
 rw [h.2] at h2
 omega
theorem checks_eq (n : Nte) : (packS n).2 = (if MayN n ∧ ownN n = n then 0 else 2) := by
 by_cases h : MayN n ∧ ownN n = n
 ·rw [if_pos h, packS_pm h]
 ·rw [if_neg h, packS_no h]
end Go.Proofs.YtkdoomglflikkaaGreat
