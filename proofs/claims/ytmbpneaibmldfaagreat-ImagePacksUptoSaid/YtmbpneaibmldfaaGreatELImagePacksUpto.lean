/- ImagePacksUpto is true: what the program answers is what the statement says, for every argument (no further condition). -/
import Derived.Test.YtmbpneaibmldfaaGreatEaa
import Derived.Test.YtmbpneaibmldfaaGreatAaa
import Derived.Test.YtmbpneaibmldfaaGreatAab
import Derived.Test.YtmbpneaibmldfaaGreatAac
import Derived.Test.YtmbpneaibmldfaaGreatAad
import Derived.Test.YtmbpneaibmldfaaGreatAaf
import Derived.Test.YtmbpneaibmldfaaGreatAag
import Derived.Test.YtmbpneaibmldfaaGreatAai
import Derived.Test.YtmbpneaibmldfaaGreatAaj
import Derived.Test.YtmbpneaibmldfaaGreatAak
import Derived.Test.YtmbpneaibmldfaaGreatAal
import Derived.Test.YtmbpneaibmldfaaGreatAap
import Derived.Test.YtmbpneaibmldfaaGreatAaq
import Derived.Test.YtmbpneaibmldfaaGreatAas
import Derived.Test.YtmbpneaibmldfaaGreatAat
import Derived.Test.YtmbpneaibmldfaaGreatAax
import Derived.Test.YtmbpneaibmldfaaGreatAbb
import Derived.Test.YtmbpneaibmldfaaGreatAbc
import Derived.Test.YtmbpneaibmldfaaGreatEab
import Derived.Test.YtmbpneaibmldfaaGreatEac
import Derived.Test.YtmbpneaibmldfaaGreatEad
import Derived.Test.YtmbpneaibmldfaaGreatEae
import Derived.Test.YtmbpneaibmldfaaGreatEaf
namespace Go.Proofs.YtmbpneaibmldfaaGreat
open Go.ChangeShapes Go.WideShapes Go.ChangeAt Go.RowKit Go.Eng Go.Eng _root_.Go.Proofs.Tryz
set_option maxRecDepth 100000
variable {w0 w:World} {M0 Fz:Nat→Prop} {H:List It} {A:Option Addr} {c:Nat}
set_option maxRecDepth 100000 in
theorem imagePacksU_lifted (os : Os) (started : os.Started) (H : Type) (enc : TypeId × Value → H) (F : Stop.Interp) :
    ReturnsInHanded {} Tryz.checked os 3 .any ((Rows.OpenSpec.upto Rows.imagePacksSpec).pre6 enc prog f3 Rows.imagePacksUptoRow.domain false) (((Rows.OpenSpec.upto Rows.imagePacksSpec).at F).post enc prog f3 false true false false):=by
 refine law_liftedU (C := Tryz.checked) Tryz.own started (by kernel_rfl) func3
   (OpenSpec.witness (enc := enc) (C := Tryz.checked) (s := Rows.OpenSpec.upto Rows.imagePacksSpec) (k := Rows.uptoSmall) rfl false ⟨#[], #[.agg #[iv 0, iv 0, iv 0, s0, iv 0, .bool false, iv 0, .int .u8 0, .int .u8 0, .int .u8 0, .int .u8 0, .int .u8 0, .int .u8 0, .int .u8 0, .int .u8 0, .int .u8 0, .int .u8 0, .int .u8 0, .int .u8 0, .int .u8 0, .int .u8 0, .int .u8 0, .int .u8 0, .int .u8 0, .int .u8 0, .int .u8 0, .int .u8 0, .int .u8 0, .int .u8 0, .int .u8 0, .int .u8 0, .int .u8 0, .int .u8 0, .int .u8 0, .int .u8 0, .int .u8 0, .int .u8 0, .int .u8 0, .int .u8 0, s0, s0, s0, iv 0, s0, .bool false, s0, .bool false, iv 0, iv 0, iv 0, s0, s0, s0, s0]], []⟩ 8 (by kernel_rfl) (by kernel_rfl) (by kernel_rfl)
     (x:=([.agg [.lit (Lit.int IntKind.i64 0), .lit (Lit.int IntKind.i64 0), .agg [.lit (Lit.int IntKind.i64 0), .nil], .agg [.lit (Lit.int IntKind.i64 0), .lit (.bool false), .agg [.lit (Lit.int IntKind.i64 0), .agg (List.replicate 32 (.lit (Lit.int IntKind.u8 0)))], .nil, .nil, .nil, .lit (Lit.int IntKind.i64 0), .nil, .lit (.bool false), .nil], .lit (.bool false), .agg [.lit (Lit.int IntKind.i64 0), .lit (Lit.int IntKind.i64 0), .lit (Lit.int IntKind.i64 0), .nil, .nil, .nil], .nil]], [], [])) (by kernel_rfl) rfl (by kernel_rfl))
   Tryz.laidOut (by kernel_rfl) rfl rfl underlying4 ?_ ?_
 intro ds hq
 obtain ⟨d0,t0,e0,q0⟩:=spec_len (show ds.length=1 from hq)
 have en:=List.eq_nil_of_length_eq_zero (show t0.length=0 from q0)
 subst en
 subst e0
 rfl
 intro W base args ds h hbulk
 obtain ⟨l⟩:=args
 rw [params3] at h
 obtain ⟨v0,l0,d0,ds0,rfl,rfl,h0,h⟩:=args_consD h
 obtain rfl:=args_nil h
 clear h
 have hb0:blkD d0≤1048576:=blk_hd hbulk
 have hk0:=h0
 obtain ⟨cs0,x0,rfl,hn,hg0⟩:=arg_struct underlying38 reads_Rpl h0
 have hz0:=size_Rpl hk0 hn hb0
 exact imagePacks_ok hn hg0.2 hz0
theorem imagePacksUpto_holds:Rows.ImagePacksUptoSaid:=
 OpenClaim.holds_of_cond 3 Tryz.f3 rfl rfl rfl rfl rfl rfl rfl ⟨rfl, rfl, rfl, rfl, rfl⟩ rfl rfl rfl rfl rfl (by kernel_rfl) Tryz.func3 (by kernel_rfl)
  (of_decide_eq_true (by kernel_rfl)) (by unfold Func.isWrapper;first|(rw [if_pos (by decide+kernel)];kernel_rfl)|(rw [if_neg (by decide+kernel)];exact ⟨rfl,rfl⟩))
  (fun os started H enc _ F=>imagePacksU_lifted os started H enc F)
end Go.Proofs.YtmbpneaibmldfaaGreat
