/- What each of these functions computes, for every argument that its theorem names; a part of what the proof of ImageOnce stands on. -/
import Derived.Test.YtmbpneaibmldfaaGreatAac
import Derived.Test.YtmbpneaibmldfaaGreatAad
import Derived.Test.YtmbpneaibmldfaaGreatAaf
import Derived.Test.YtmbpneaibmldfaaGreatAag
import Derived.Test.YtmbpneaibmldfaaGreatAai
import Derived.Test.YtmbpneaibmldfaaGreatAaj
import Derived.Test.YtmbpneaibmldfaaGreatAak
import Derived.Test.YtmbpneaibmldfaaGreatAap
import Derived.Test.YtmbpneaibmldfaaGreatAaq
import Derived.Test.YtmbpneaibmldfaaGreatAas
import Derived.Test.YtmbpneaibmldfaaGreatAat
import Derived.Test.YtmbpneaibmldfaaGreatAav
import Derived.Test.YtmbpneaibmldfaaGreatAay
import Derived.Test.YtmbpneaibmldfaaGreatAba
import Derived.Test.YtmbpneaibmldfaaGreatAbb
namespace Go.Proofs.YtmbpneaibmldfaaGreat
open Go.RowKit Go.Eng _root_.Go.Proofs.Tryz Go.Eng _root_.Go.Proofs.Tryz
set_option maxRecDepth 100000
variable {w0 w:World} {M0 Fz:Nat→Prop} {H:List It} {A:Option Addr} {c:Nat}
set_option maxHeartbeats 4000000 in
theorem lAwake_ok {w:World}:Ret prog 16 #[] w (fun v w'=>v= .bool true∧Ext w w'):=by
 refine ret_of_wk func16 rfl ntmps16 leB_ ?_
 have hp:=HP.begin_ w
 refine so ?_
 refine Cl_ (xs:= []) (by kernel_rfl) rfl smallE ?_
 rintro _ w1 ⟨s1,rfl,r1,E1⟩
 refine Cl_ (xs:= [.tmp 9]) (by kernel_rfl) rfl (inE r1 ls0) ?_
 rintro _ w2 ⟨s2,rfl,r2,E2⟩
 refine Cl_ (xs:= [.tmp 10]) (by kernel_rfl) rfl (iBytes_ok r2 no_small sz_small) ?_
 rintro _ w3 ⟨A1,c1,rfl,ho3,E3⟩
 rw [b_small] at ho3⊢
 have hb3:BS (fun _=>True) w3 A1 c1 (rplE small0):=ho3.bs.mono (fun _ _ _=>trivial)
 have h52:=small_b.1
 refine so ?_
 refine Cl_ (xs:= []) (by kernel_rfl) rfl fullE ?_
 rintro _ w4 ⟨s4,rfl,r4,E4⟩
 refine Cl_ (xs:= [.tmp 15]) (by kernel_rfl) rfl (inE r4 lf0) ?_
 rintro _ w5 ⟨s5,rfl,r5,E5⟩
 refine Cl_ (xs:= [.tmp 16]) (by kernel_rfl) rfl (iBytes_ok r5 no_full sz_full) ?_
 rintro _ w6 ⟨A4,c4,rfl,ho6,E6⟩
 rw [b_full] at ho6⊢
 refine so ?_
 refine Cl_ (xs:= [.tmp 21]) (by kernel_rfl) rfl (parseE ho6.bs) ?_
 rintro _ w7 ⟨cs5,x5,e5,rfl,r7,ep,E7⟩
 rw [p_full] at ep
 cases ep
 have hEw:Ext w w7:=me
 replace hp:=hp.ext hEw
 obtain ⟨F7,hp,s7,n7,_⟩:=(HP.begin_ w).frz hEw
 have all7: ∀b,b<w7.heap.size→F7 b:=fun b hb=>by
  rcases Nat.lt_or_ge b w.heap.size with h|h
  ·exact s7 b h
  ·exact n7 b h hb
 have hb7:BS F7 w7 A1 c1 (rplE small0):=(hb3.ext (E7.bE (E6.bE (E5.bE E4)))).mono (fun b hb _=>all7 b hb)
 have q7:rplR.rd F7 w7 cs5 full0:=rplR.mono (fun b hb _=>all7 b hb) r7
 clear ho3 hb3 ho6 r7 r5 r4 r2 r1
 have hl5:cs5.length=54:=rplR.len q7
 refine so ?_
 refine Alo hp (h:=fun g5 w8 hp E8=> ?_)
 refine Hs 0 hp (xs:=cs5) (ds:=cs5) (hc:=⟨rfl⟩) (hk:=hl5) (hl:=by rw [hl5];exact leB_) (h1:=rplR.one q7) (hq:=putL_all (by rw [hl5];rfl)) (h:=fun w9 hp C9=> ?_)
 have hb9:BS F7 w9 A1 c1 (rplE small0):=hb7.to
 have q9:ReadsU w9 cs5 full0:=rplR.mono (fun _ _ _=>trivial) (rplR.keep C9 (fun b _ hb hn=>hn hb) (rplR.keep E8 (fun _ _ _ x=>x) q7))
 refine so ?_
 refine wl_bsliceB (bs:=want0) (xs:= [.const (.int .u8 1), .const (.int .u8 1), .const (.int .u8 0), .const (.int .u8 0), .const (.int .u8 1), .const (.int .u8 1), .const (.int .u8 1), .const (.int .u8 5), .const (.int .u8 0), .const (.int .u8 0), .const (.int .u8 0)]) (by decide) sl36 rfl rfl rfl leB_ w9.heap.size (Nat.le_refl _) ?_
 intro g7 wr hg7 ho7 E10
 have hw7:BS (fun _=>True) wr (some ⟨g7,0,none⟩) 11 want0:=ho7.bs.mono (fun _ _ _=>trivial)
 have hbr:=hb9.ext E10
 have h5:=rpl_ext q9 E10
 replace hp:=hp.ext E10
 have hb11:BS F7 wr A1 c1 ((rplE small0).take 11):=hbr.take 11
 have hc1:52≤c1:=by have:=hbr.le;omega
 generalize hA7:(some ⟨g7,0,none⟩:Option Addr)=A7 at hw7⊢
 rw [show (rplE small0,(0:Int)).1.length=52 from h52]
 refine so ?_
 refine wdT 40 [.eq (iv 0), .eq (.bool true), .eq (.bool true), .eq (iv 0), .eq (.bool true), .eq (.bool true), .eq (.bool true), .eq (iv 0), .eq (.bool true), .eq (.bool true), .eq (.bool true), .eq (.slice A1 52 c1), .eq (iv 52), .eq (.bool true), .eq (.bool true), .eq (.bool true), .eq (.slice A1 52 c1), .eq (.slice A1 11 c1), .eq (.slice A7 11 11), .eq (.bool true), .eq (.bool true), .eq (.bool true), .eq (.agg cs5.toArray),rdU full0,rdU full0, .eq (.bool true), .eq (.bool true), .eq (.bool true), .eq (.agg cs5.toArray),rdU full0,rdU full0, .eq (.bool true), .eq (.bool true), .eq (.bool true), .eq (.agg cs5.toArray),rdU small0,rdU small0, .eq (.bool false), .eq (.bool true), .eq (.bool true)] ?_ ?_
 ·refine ⟨?_, ?_, ?_, ?_, ?_, ?_, ?_, ?_, ?_, ?_, ?_, ?_, ?_, ?_, ?_, ?_, ?_, ?_, ?_, ?_, ?_, ?_, ?_, ?_, ?_, ?_, ?_, ?_, ?_, ?_, ?_, ?_, ?_, ?_, ?_, ?_, ?_, ?_, ?_, ?_, trivial⟩ <;> intro F wF hER hk
  ·exact dm (hk.qi 2)
  ·exact Eq_ (b:=0) (hk.qe 0) rfl qz
  ·exact dm (hk.qe 1)
  ·exact gy (hk.qe 2) (dm (hk.qi 4))
  ·exact gy (hk.qe 2) (Eq_ (b:=0) (hk.qe 3) rfl qz)
  ·exact Pk_ (b:=true) (hk.qe 2) (hk.qe 4) qz
  ·exact dm (hk.qe 5)
  ·exact gy (hk.qe 6) (dm (hk.qi 6))
  ·exact gy (hk.qe 6) (Eq_ (b:=0) (hk.qe 7) rfl qz)
  ·exact Pk_ (b:=true) (hk.qe 6) (hk.qe 8) qz
  ·exact dm (hk.qe 9)
  ·exact gy (hk.qe 10) (dm (hk.qi 1))
  ·exact gy (hk.qe 10) (Ln_ sl36u (hk.qe 11) qz)
  ·exact gy (hk.qe 10) (Eq_ (b:=52) (hk.qe 12) rfl qz)
  ·exact Pk_ (b:=true) (hk.qe 10) (hk.qe 13) qz
  ·exact dm (hk.qe 14)
  ·exact gy (hk.qe 15) (dm (hk.qi 1))
  ·exact gy (hk.qe 15) (wl_upto (by decide) sl36 (hk.qe 16) rfl 11 rfl (by omega) qz)
  ·exact gy (hk.qe 15) (dm (hk.qi 7))
  ·refine gy (hk.qe 15) ?_
   have e17:=hk.qe 17
   have e18:=hk.qe 18
   refine Cl_ (xs:= [.tmp 43, .tmp 44]) (vs:= [.slice A1 11 c1, .slice A7 11 11]) (by kernel_rfl) (by simp only [evs,ev,e17,e18]) (by have h:=eqBytes_ok (la:=(rplE small0).take 11) (lb:=want0) (hb11.ext hER) (hw7.ext hER);rw [el11] at h;exact h) ?_
   rintro _ wc ⟨rfl,hEc⟩
   exact qz ⟨hEc,eqw⟩
  ·exact Pk_ (b:=true) (hk.qe 15) (hk.qe 19) qz
  ·exact dm (hk.qe 20)
  ·exact gy (hk.qe 21) (wl_hloadX cs5 (i:=0) (by decide) ag38 (hk.qi 5) (hp.ext hER) rfl hl5 (ld5 hl5) qz)
  ·refine gy (hk.qe 21) ?_
   have e22:=hk.qe 22
   refine Cl_ (xs:= [.tmp 48]) (by kernel_rfl) (by simp only [evs,ev,e22]) (outE (rpl_ext h5 hER) lf0) ?_
   rintro _ wc ⟨cs,rfl,h,hEc⟩
   exact qz ⟨hEc,cs,rfl,h⟩
  ·refine gy (hk.qe 21) ?_
   refine Cl_ (xs:= []) (by kernel_rfl) (by simp only [evs]) (fullE) ?_
   rintro _ wc ⟨cs,rfl,h,hEc⟩
   exact qz ⟨hEc,cs,rfl,h⟩
  ·refine gy (hk.qe 21) ?_
   obtain ⟨u49,e23,cs23,rfl,h23⟩:=hk.qp 23
   obtain ⟨u50,e24,cs24,rfl,h24⟩:=hk.qp 24
   refine Cl_ (xs:= [.tmp 49, .tmp 50]) (by kernel_rfl) (by simp only [evs,ev,e23,ev,e24]) (r22Same_ok h23 h24) ?_
   rintro _ wc ⟨rfl,hEc⟩
   exact qz ⟨hEc,congrArg Value.bool (decide_eq_true rfl)⟩
  ·exact Pk_ (b:=true) (hk.qe 21) (hk.qe 25) qz
  ·exact dm (hk.qe 26)
  ·exact gy (hk.qe 27) (wl_hloadX cs5 (i:=0) (by decide) ag38 (hk.qi 5) (hp.ext hER) rfl hl5 (ld5 hl5) qz)
  ·refine gy (hk.qe 27) ?_
   refine Cl_ (xs:= []) (by kernel_rfl) (by simp only [evs]) (fullE) ?_
   rintro _ wc ⟨cs,rfl,h,hEc⟩
   exact qz ⟨hEc,cs,rfl,h⟩
  ·refine gy (hk.qe 27) ?_
   obtain ⟨u55,e29,cs29,rfl,h29⟩:=hk.qp 29
   refine Cl_ (xs:= [.tmp 55]) (by kernel_rfl) (by simp only [evs,ev,e29]) (inE h29 lf0) ?_
   rintro _ wc ⟨cs,rfl,h,hEc⟩
   exact qz ⟨hEc,cs,rfl,h⟩
  ·refine gy (hk.qe 27) ?_
   have e28:=hk.qe 28
   obtain ⟨u56,e30,cs30,rfl,h30⟩:=hk.qp 30
   refine Cl_ (xs:= [.tmp 54, .tmp 56]) (by kernel_rfl) (by simp only [evs,ev,e28,ev,e30]) (iSame_ok (rpl_ext h5 hER) h30) ?_
   rintro _ wc ⟨rfl,hEc⟩
   exact qz ⟨hEc,congrArg Value.bool (decide_eq_true rfl)⟩
  ·exact Pk_ (b:=true) (hk.qe 27) (hk.qe 31) qz
  ·exact dm (hk.qe 32)
  ·exact gy (hk.qe 33) (wl_hloadX cs5 (i:=0) (by decide) ag38 (hk.qi 5) (hp.ext hER) rfl hl5 (ld5 hl5) qz)
  ·refine gy (hk.qe 33) ?_
   refine Cl_ (xs:= []) (by kernel_rfl) (by simp only [evs]) (smallE) ?_
   rintro _ wc ⟨cs,rfl,h,hEc⟩
   exact qz ⟨hEc,cs,rfl,h⟩
  ·refine gy (hk.qe 33) ?_
   obtain ⟨u61,e35,cs35,rfl,h35⟩:=hk.qp 35
   refine Cl_ (xs:= [.tmp 61]) (by kernel_rfl) (by simp only [evs,ev,e35]) (inE h35 ls0) ?_
   rintro _ wc ⟨cs,rfl,h,hEc⟩
   exact qz ⟨hEc,cs,rfl,h⟩
  ·refine gy (hk.qe 33) ?_
   have e34:=hk.qe 34
   obtain ⟨u62,e36,cs36,rfl,h36⟩:=hk.qp 36
   refine Cl_ (xs:= [.tmp 60, .tmp 62]) (by kernel_rfl) (by simp only [evs,ev,e34,ev,e36]) (iSame_ok (rpl_ext h5 hER) h36) ?_
   rintro _ wc ⟨rfl,hEc⟩
   exact qz ⟨hEc,congrArg Value.bool (decide_eq_false fs_ne)⟩
  ·exact gy (hk.qe 33) (Nn_ (hk.qe 37) qz)
  ·exact Pk_ (b:=true) (hk.qe 33) (hk.qe 38) qz
 intro F wD hED hini hdo
 have e65:=dr hdo 39
 refine wl_drop [(65,_)] ⟨e65,trivial⟩ ?_
 refine so ?_
 refine Pt ?_
 exact ⟨_,rfl,rfl,(hp.ext hED).chg⟩
end Go.Proofs.YtmbpneaibmldfaaGreat
