/- What each of these functions computes, for every argument that its theorem names; a part of what the proof of NotePacks stands on. -/
import Derived.Test.YtkdoomglflikkaaGreatQac
import Derived.Test.YtkdoomglflikkaaGreatQad
import Derived.Test.YtkdoomglflikkaaGreatQah
import Derived.Test.YtkdoomglflikkaaGreatQax
import Derived.Test.YtkdoomglflikkaaGreatQbh
namespace Go.Proofs.YtkdoomglflikkaaGreat
open Go.RowKit Go.Eng Go.Eng _root_.Go.Proofs.Tryz
set_option maxRecDepth 100000
variable {w0 w : World} {M0 Fz : Nat → Prop} {H : List It} {A : Option Addr} {c : Nat}
set_option maxHeartbeats 40000000 in
theorem qBatch_ok {out : List UInt8} {l : List Wsh} {B : Option Addr} {d : Nat} (hp : HP w0 M0 Fz w (itR 5 1 A out.length c (out.map bv) :: H)) (hl : GS wishR Fz w B d l) (hok : batchOk l) (hlen : out.length + (batchE l).length ≤ 1000000) : Ret prog 43 #[.slice A out.length c, .slice B l.length d] w (RwP 5 w0 M0 Fz w H (out ++ batchE l)) := by
 have hFr:=Frz.start Fz w
 have hbl9:=blist_len hok
 unfold batchE at hlen
 refine ret_of_wk func43 rfl ntmps43 leB_ ?_
 refine go ?_
 have hcl:=r11Batch_ok hl hok
 refine Cl_ cl75 rfl hcl ?_
 clear hcl
 rintro _ w1 ⟨A1, c1, rfl, ho1, hE1⟩
 replace ho1:=ho1.bs
 have hsz2:=hp.chg.size
 obtain ⟨Fz2, hp2, hsub2, hnew2, hup2⟩ := hp.frz hE1
 replace hp:=hp2
 replace hFr:=(hFr.ext hE1).wid hsub2
 replace ho1:=ho1.frz hnew2
 refine go ?_
 have hcl:=qStr_ok hp ho1 (by omega) (by omega)
 refine Cl_ cl44 rfl hcl ?_
 clear hcl
 rintro _ w3 ⟨A3, c3, rfl, hp3, hF3⟩
 replace hFr:=hFr.fr hF3
 replace hp:=(hp3.ay (itR 5 1 A3 ((out ++ strE (blistE l))).length c3 (((out ++ strE (blistE l))).map bv) :: H))
 refine go ?_
 refine P1 results43 ?_
 exact ⟨_, rfl, _, _, rfl, hp.less hFr.sub, hFr.chg, fun _ h => h⟩
end Go.Proofs.YtkdoomglflikkaaGreat
