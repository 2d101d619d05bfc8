/-
  No cell of these rows narrows 'for every input' (looked for: loops, veiled, ifaces, maps, wideKeys, modest, calm, conditions, laid).
  DERIVED. THE GIVEN ROWS OF THIS SEAT. 7 by the template 'for every input the law returns true; each argument reads behind the call as it read before'; 0 by the template 'total and deterministic' (their statements: YtmbpneaibmldfaaGreatTotals.lean).
  GIVEN WITH THE SEED: the statements are not yours to turn. If you find one false, say at which input.
  Laid BY PROGRAM, IN A SANDBOX (cutbox-rows.mjs): the forced cells as the released guide's own fill.sh prints them over the translation c7c92f7eaeed6397… (all of the seat's roots in one cut). By AI agents, Wed Nov 11 2026. No macro, syntax, notation, axiom, sorry.
-/
import Derived.Test.YtmbpneaibmldfaaGreatChecked
import GoSem.Claim
import GoSem.ClaimJoined
import GoSem.ClaimMapViews
import Derived.JoinedTies
import Derived.KernelRfl
namespace Go.Proofs.YtmbpneaibmldfaaGreat
/- THE CELL 'sum', in the pinned program and in every row, IS THE sha256 OF THE DUMP (.gsa) THAT YtmbpneaibmldfaaGreatProg.lean LOADS. Nothing in Lean hashes anything: it is a label: what it is worth is what the hold of that sum in a sandbox is worth. -/
noncomputable def Tryz.pinned : Pinned := { name := "ytmbpneaibmldfaagreat", sum := "c7c92f7eaeed6397c80a087e706907985e0afb9f392d33bdd27202e5eab21f1a", checked := Tryz.checked }
namespace Rows
def none {H : Type} : Left H := { results := [], args := [] }

/-- 'bastidelaw22.ImagePacks': WHATEVER THE INPUT: true; the input reads as it did. -/
def imagePacksSpec : ChangeSpec := { name := "imagePacks", fn := fun _ => fun
  | [d] => { results := [.lit (.bool true)], args := [d] }
  | _ => none }
def imagePacksRow : OpenClaim := { program := "ytmbpneaibmldfaagreat", sum := "c7c92f7eaeed6397c80a087e706907985e0afb9f392d33bdd27202e5eab21f1a", func := "bastide/bastidelaw22.ImagePacks", spec := "imagePacks", inPlace := ["internal/bytealg.Compare"], unfollowed := true, recurses := true, plainKeys := false, apart := false }
def ImagePacksSaid : Prop := imagePacksRow.holds Tryz.pinned (OpenSpec.ofChange imagePacksSpec)

/-- ITS FALSE NEIGHBOUR: 'it returns false'. Refute it at one input. -/
def imagePacksWrong : ChangeSpec := { name := "imagePacks", fn := fun _ => fun
  | [d] => { results := [.lit (.bool false)], args := [d] }
  | _ => none }
def ImagePacksWrongFalsely : Prop := imagePacksRow.holds Tryz.pinned (OpenSpec.ofChange imagePacksWrong)

/-- 'bastidelaw22.ImageReads': WHATEVER THE INPUT: true; the input reads as it did. -/
def imageReadsSpec : ChangeSpec := { name := "imageReads", fn := fun _ => fun
  | [d] => { results := [.lit (.bool true)], args := [d] }
  | _ => none }
def imageReadsRow : OpenClaim := { program := "ytmbpneaibmldfaagreat", sum := "c7c92f7eaeed6397c80a087e706907985e0afb9f392d33bdd27202e5eab21f1a", func := "bastide/bastidelaw22.ImageReads", spec := "imageReads", inPlace := ["internal/bytealg.Compare"], unfollowed := true, recurses := true, plainKeys := false, apart := false }
def ImageReadsSaid : Prop := imageReadsRow.holds Tryz.pinned (OpenSpec.ofChange imageReadsSpec)

/-- ITS FALSE NEIGHBOUR: 'it returns false'. Refute it at one input. -/
def imageReadsWrong : ChangeSpec := { name := "imageReads", fn := fun _ => fun
  | [d] => { results := [.lit (.bool false)], args := [d] }
  | _ => none }
def ImageReadsWrongFalsely : Prop := imageReadsRow.holds Tryz.pinned (OpenSpec.ofChange imageReadsWrong)

/-- 'bastidelaw22.ImageSame': WHATEVER THE INPUT: true; the input reads as it did. -/
def imageSameSpec : ChangeSpec := { name := "imageSame", fn := fun _ => fun
  | [d1, d2] => { results := [.lit (.bool true)], args := [d1, d2] }
  | _ => none }
def imageSameRow : OpenClaim := { program := "ytmbpneaibmldfaagreat", sum := "c7c92f7eaeed6397c80a087e706907985e0afb9f392d33bdd27202e5eab21f1a", func := "bastide/bastidelaw22.ImageSame", spec := "imageSame", inPlace := ["internal/bytealg.Compare"], unfollowed := true, recurses := true, plainKeys := false, apart := false }
def ImageSameSaid : Prop := imageSameRow.holds Tryz.pinned (OpenSpec.ofChange imageSameSpec)

/-- ITS FALSE NEIGHBOUR: 'it returns false'. Refute it at one input. -/
def imageSameWrong : ChangeSpec := { name := "imageSame", fn := fun _ => fun
  | [d1, d2] => { results := [.lit (.bool false)], args := [d1, d2] }
  | _ => none }
def ImageSameWrongFalsely : Prop := imageSameRow.holds Tryz.pinned (OpenSpec.ofChange imageSameWrong)

/-- 'bastidelaw22.ImageBack': WHATEVER THE INPUT: true; the input reads as it did. -/
def imageBackSpec : ChangeSpec := { name := "imageBack", fn := fun _ => fun
  | [d] => { results := [.lit (.bool true)], args := [d] }
  | _ => none }
def imageBackRow : OpenClaim := { program := "ytmbpneaibmldfaagreat", sum := "c7c92f7eaeed6397c80a087e706907985e0afb9f392d33bdd27202e5eab21f1a", func := "bastide/bastidelaw22.ImageBack", spec := "imageBack", inPlace := ["internal/bytealg.Compare"], unfollowed := true, recurses := true, plainKeys := false, apart := false }
def ImageBackSaid : Prop := imageBackRow.holds Tryz.pinned (OpenSpec.ofChange imageBackSpec)

/-- ITS FALSE NEIGHBOUR: 'it returns false'. Refute it at one input. -/
def imageBackWrong : ChangeSpec := { name := "imageBack", fn := fun _ => fun
  | [d] => { results := [.lit (.bool false)], args := [d] }
  | _ => none }
def ImageBackWrongFalsely : Prop := imageBackRow.holds Tryz.pinned (OpenSpec.ofChange imageBackWrong)

/-- 'bastidelaw22.ImageOnce': WHATEVER THE INPUT: true; the input reads as it did. -/
def imageOnceSpec : ChangeSpec := { name := "imageOnce", fn := fun _ => fun
  | [d] => { results := [.lit (.bool true)], args := [d] }
  | _ => none }
def imageOnceRow : OpenClaim := { program := "ytmbpneaibmldfaagreat", sum := "c7c92f7eaeed6397c80a087e706907985e0afb9f392d33bdd27202e5eab21f1a", func := "bastide/bastidelaw22.ImageOnce", spec := "imageOnce", inPlace := ["internal/bytealg.Compare"], unfollowed := true, recurses := true, plainKeys := false, apart := false }
def ImageOnceSaid : Prop := imageOnceRow.holds Tryz.pinned (OpenSpec.ofChange imageOnceSpec)

/-- ITS FALSE NEIGHBOUR: 'it returns false'. Refute it at one input. -/
def imageOnceWrong : ChangeSpec := { name := "imageOnce", fn := fun _ => fun
  | [d] => { results := [.lit (.bool false)], args := [d] }
  | _ => none }
def ImageOnceWrongFalsely : Prop := imageOnceRow.holds Tryz.pinned (OpenSpec.ofChange imageOnceWrong)

/-- 'bastidelaw22.ImageShort': WHATEVER THE INPUT: true; the input reads as it did. -/
def imageShortSpec : ChangeSpec := { name := "imageShort", fn := fun _ => fun
  | [d1, d2, d3] => { results := [.lit (.bool true)], args := [d1, d2, d3] }
  | _ => none }
def imageShortRow : OpenClaim := { program := "ytmbpneaibmldfaagreat", sum := "c7c92f7eaeed6397c80a087e706907985e0afb9f392d33bdd27202e5eab21f1a", func := "bastide/bastidelaw22.ImageShort", spec := "imageShort", inPlace := ["internal/bytealg.Compare"], unfollowed := true, recurses := true, plainKeys := false, apart := false }
def ImageShortSaid : Prop := imageShortRow.holds Tryz.pinned (OpenSpec.ofChange imageShortSpec)

/-- ITS FALSE NEIGHBOUR: 'it returns false'. Refute it at one input. -/
def imageShortWrong : ChangeSpec := { name := "imageShort", fn := fun _ => fun
  | [d1, d2, d3] => { results := [.lit (.bool false)], args := [d1, d2, d3] }
  | _ => none }
def ImageShortWrongFalsely : Prop := imageShortRow.holds Tryz.pinned (OpenSpec.ofChange imageShortWrong)

/-- 'bastidelaw22.ImageNames': WHATEVER THE INPUT: true; the input reads as it did. -/
def imageNamesSpec : ChangeSpec := { name := "imageNames", fn := fun _ => fun
  | [] => { results := [.lit (.bool true)], args := [] }
  | _ => none }
def imageNamesRow : OpenClaim := { program := "ytmbpneaibmldfaagreat", sum := "c7c92f7eaeed6397c80a087e706907985e0afb9f392d33bdd27202e5eab21f1a", func := "bastide/bastidelaw22.ImageNames", spec := "imageNames", inPlace := ["internal/bytealg.Compare"], unfollowed := true, recurses := true, plainKeys := false, apart := false }
def ImageNamesSaid : Prop := imageNamesRow.holds Tryz.pinned (OpenSpec.ofChange imageNamesSpec)

/-- ITS FALSE NEIGHBOUR: 'it returns false'. Refute it at one input. -/
def imageNamesWrong : ChangeSpec := { name := "imageNames", fn := fun _ => fun
  | [] => { results := [.lit (.bool false)], args := [] }
  | _ => none }
def ImageNamesWrongFalsely : Prop := imageNamesRow.holds Tryz.pinned (OpenSpec.ofChange imageNamesWrong)

/- THE SECOND FORM. 'bulk': how many values and letters a reading holds, each counted each time it is reached (what is shared counts as often as it is met; a slice's spare places count too). A statement '..UptoSaid' is the law's where the arguments, and the package variables that the reading takes, are together of bulk at most 1048576: NARROWER than '..Said'. Prove '..Said' where nothing that the law and all that it calls make is longer than what came in: it says more and counts as full. Else prove '..UptoSaid'. A law counts once. -/
mutual
def uptoBulk {H : Type} : DataW H → Nat
  | .lit (.string bytes) => bytes.length + 1
  | .lit _ => 1
  | .nil => 1
  | .ptr d => uptoBulk d + 1
  | .slice elems spare => uptoBulkAll elems + uptoBulkAll spare + 1
  | .agg parts => uptoBulkAll parts + 1
  | .iface _ d => uptoBulk d + 1
  | .map entries => uptoBulkEntries entries + 1
  | .held _ => 1
def uptoBulkAll {H : Type} : List (DataW H) → Nat
  | [] => 0
  | d :: r => uptoBulk d + uptoBulkAll r
def uptoBulkEntries {H : Type} : List (Lit × DataW H) → Nat
  | [] => 0
  | x :: r => uptoBulkEntry x + uptoBulkEntries r
def uptoBulkEntry {H : Type} : Lit × DataW H → Nat
  | (.string bytes, d) => bytes.length + uptoBulk d + 1
  | (_, d) => uptoBulk d + 1
 end
def uptoSmall : (H : Type) → List (DataW H) → Bool := fun _ ds => decide (uptoBulkAll ds ≤ 1048576)
def OpenSpec.upto (s : _root_.Go.ChangeSpec) : _root_.Go.OpenSpec := { _root_.Go.OpenSpec.ofChange s with cond := some uptoSmall }

/-- 'bastidelaw22.ImagePacks', WHERE WHAT IT READS IS OF BULK AT MOST 1048576: true; the input reads as it did. -/
def imagePacksUptoRow : OpenClaim := { program := "ytmbpneaibmldfaagreat", sum := "c7c92f7eaeed6397c80a087e706907985e0afb9f392d33bdd27202e5eab21f1a", func := "bastide/bastidelaw22.ImagePacks", spec := "imagePacks", inPlace := ["internal/bytealg.Compare"], unfollowed := true, recurses := true, plainKeys := false, apart := false, narrowed := true }
def ImagePacksUptoSaid : Prop := imagePacksUptoRow.holds Tryz.pinned (OpenSpec.upto imagePacksSpec)

/-- 'bastidelaw22.ImageReads', WHERE WHAT IT READS IS OF BULK AT MOST 1048576: true; the input reads as it did. -/
def imageReadsUptoRow : OpenClaim := { program := "ytmbpneaibmldfaagreat", sum := "c7c92f7eaeed6397c80a087e706907985e0afb9f392d33bdd27202e5eab21f1a", func := "bastide/bastidelaw22.ImageReads", spec := "imageReads", inPlace := ["internal/bytealg.Compare"], unfollowed := true, recurses := true, plainKeys := false, apart := false, narrowed := true }
def ImageReadsUptoSaid : Prop := imageReadsUptoRow.holds Tryz.pinned (OpenSpec.upto imageReadsSpec)

/-- 'bastidelaw22.ImageSame', WHERE WHAT IT READS IS OF BULK AT MOST 1048576: true; the input reads as it did. -/
def imageSameUptoRow : OpenClaim := { program := "ytmbpneaibmldfaagreat", sum := "c7c92f7eaeed6397c80a087e706907985e0afb9f392d33bdd27202e5eab21f1a", func := "bastide/bastidelaw22.ImageSame", spec := "imageSame", inPlace := ["internal/bytealg.Compare"], unfollowed := true, recurses := true, plainKeys := false, apart := false, narrowed := true }
def ImageSameUptoSaid : Prop := imageSameUptoRow.holds Tryz.pinned (OpenSpec.upto imageSameSpec)

/-- 'bastidelaw22.ImageBack', WHERE WHAT IT READS IS OF BULK AT MOST 1048576: true; the input reads as it did. -/
def imageBackUptoRow : OpenClaim := { program := "ytmbpneaibmldfaagreat", sum := "c7c92f7eaeed6397c80a087e706907985e0afb9f392d33bdd27202e5eab21f1a", func := "bastide/bastidelaw22.ImageBack", spec := "imageBack", inPlace := ["internal/bytealg.Compare"], unfollowed := true, recurses := true, plainKeys := false, apart := false, narrowed := true }
def ImageBackUptoSaid : Prop := imageBackUptoRow.holds Tryz.pinned (OpenSpec.upto imageBackSpec)

/-- 'bastidelaw22.ImageOnce', WHERE WHAT IT READS IS OF BULK AT MOST 1048576: true; the input reads as it did. -/
def imageOnceUptoRow : OpenClaim := { program := "ytmbpneaibmldfaagreat", sum := "c7c92f7eaeed6397c80a087e706907985e0afb9f392d33bdd27202e5eab21f1a", func := "bastide/bastidelaw22.ImageOnce", spec := "imageOnce", inPlace := ["internal/bytealg.Compare"], unfollowed := true, recurses := true, plainKeys := false, apart := false, narrowed := true }
def ImageOnceUptoSaid : Prop := imageOnceUptoRow.holds Tryz.pinned (OpenSpec.upto imageOnceSpec)

/-- 'bastidelaw22.ImageShort', WHERE WHAT IT READS IS OF BULK AT MOST 1048576: true; the input reads as it did. -/
def imageShortUptoRow : OpenClaim := { program := "ytmbpneaibmldfaagreat", sum := "c7c92f7eaeed6397c80a087e706907985e0afb9f392d33bdd27202e5eab21f1a", func := "bastide/bastidelaw22.ImageShort", spec := "imageShort", inPlace := ["internal/bytealg.Compare"], unfollowed := true, recurses := true, plainKeys := false, apart := false, narrowed := true }
def ImageShortUptoSaid : Prop := imageShortUptoRow.holds Tryz.pinned (OpenSpec.upto imageShortSpec)

/-- 'bastidelaw22.ImageNames', WHERE WHAT IT READS IS OF BULK AT MOST 1048576: true; the input reads as it did. -/
def imageNamesUptoRow : OpenClaim := { program := "ytmbpneaibmldfaagreat", sum := "c7c92f7eaeed6397c80a087e706907985e0afb9f392d33bdd27202e5eab21f1a", func := "bastide/bastidelaw22.ImageNames", spec := "imageNames", inPlace := ["internal/bytealg.Compare"], unfollowed := true, recurses := true, plainKeys := false, apart := false, narrowed := true }
def ImageNamesUptoSaid : Prop := imageNamesUptoRow.holds Tryz.pinned (OpenSpec.upto imageNamesSpec)

end Rows
end Go.Proofs.YtmbpneaibmldfaaGreat
