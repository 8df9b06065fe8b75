/-
  NARROWER THAN 'FOR EVERY INPUT', by the rows' own cells (each row's printed sentence says how): SideInlines: laid · SideBack: laid · SidePrints: laid · SideCuts: laid · SideFits: laid.
  DERIVED. THE GIVEN ROWS OF THIS SEAT. 5 by the template 'for every input the law returns true; each argument reads behind the call as it read before'; 0 by the template 'total and deterministic' (their statements: YtjlobgcmhnkgnaaDoorTotals.lean).
  GIVEN WITH THE SEED: the statements are not yours to turn. If you find one false, say at which input.
  Laid BY PROGRAM, IN A SANDBOX (cutbox-rows.mjs): the forced cells as the released guide's own fill.sh prints them over the translation d668b4c177a310a3… (all of the seat's roots in one cut). By AI agents, Wed Nov 11 2026. No macro, syntax, notation, axiom, sorry.
-/
import Derived.Test.YtjlobgcmhnkgnaaDoorChecked
import GoSem.Claim
import GoSem.ClaimJoined
import GoSem.ClaimMapViews
import Derived.JoinedTies
import Derived.KernelRfl
namespace Go.Proofs.YtjlobgcmhnkgnaaDoor
/- THE CELL 'sum', in the pinned program and in every row, IS THE sha256 OF THE DUMP (.gsa) THAT YtjlobgcmhnkgnaaDoorProg.lean LOADS. Nothing in Lean hashes anything: it is a label: what it is worth is what the hold of that sum in a sandbox is worth. -/
noncomputable def Tryd.pinned : Pinned := { name := "ytjlobgcmhnkgnaadoor", sum := "d668b4c177a310a3e7cfcd49c600c0c1a6aa7ae9bb27aef8b8b56f1b6806b32e", checked := Tryd.checked }
namespace Rows
def none {H : Type} : Left H := { results := [], args := [] }

/- WHAT THE LISTED PACKAGE-LEVEL VARIABLES READ AS WHEN THE CALL BEGINS. Each datum BY PROGRAM (the guide's laid-datum.mjs) off the statement by which the dump's own 'gosem.cut.vars' lays the variable. In a bare row this is a premise. The card (YtjlobgcmhnkgnaaDoorCards.lean) ties it to the program's text. -/
def laid_errors_errorType {H : Type} : DataW H := .iface "internal/reflectlite.rtype" (.agg [.ptr (.lit (.string [101, 114, 114, 111, 114]))])

/-- 'selvagelaw15.SideInlines': WHATEVER THE INPUT: true; the input reads as it did. -/
def sideInlinesSpec : ChangeSpec := { name := "sideInlines", fn := fun _ => fun
  | [d1, d2, d3] => { results := [.lit (.bool true)], args := [d1, d2, d3] }
  | _ => none }
def sideInlinesRow : OpenClaim := { program := "ytjlobgcmhnkgnaadoor", sum := "d668b4c177a310a3e7cfcd49c600c0c1a6aa7ae9bb27aef8b8b56f1b6806b32e", func := "selvage/selvagelaw15.SideInlines", spec := "sideInlines", inPlace := ["internal/abi.NoEscape", "internal/bytealg.MakeNoZero", "internal/reflectlite.ValueOf", "(internal/reflectlite.Value).Type", "(internal/reflectlite.Value).IsNil", "internal/reflectlite.TypeOf", "(internal/reflectlite.Value).Elem", "(internal/reflectlite.Value).Set"], unfollowed := true, recurses := true, named := ["errors.errorType"], apart := false, laid := [("errors.errorType", laid_errors_errorType)] }
def SideInlinesSaid : Prop := sideInlinesRow.holds Tryd.pinned (OpenSpec.ofChange sideInlinesSpec)

/-- ITS FALSE NEIGHBOUR: 'it returns false'. Refute it at one input. -/
def sideInlinesWrong : ChangeSpec := { name := "sideInlines", fn := fun _ => fun
  | [d1, d2, d3] => { results := [.lit (.bool false)], args := [d1, d2, d3] }
  | _ => none }
def SideInlinesWrongFalsely : Prop := sideInlinesRow.holds Tryd.pinned (OpenSpec.ofChange sideInlinesWrong)

/-- 'selvagelaw15.SideBack': WHATEVER THE INPUT: true; the input reads as it did. -/
def sideBackSpec : ChangeSpec := { name := "sideBack", fn := fun _ => fun
  | [d] => { results := [.lit (.bool true)], args := [d] }
  | _ => none }
def sideBackRow : OpenClaim := { program := "ytjlobgcmhnkgnaadoor", sum := "d668b4c177a310a3e7cfcd49c600c0c1a6aa7ae9bb27aef8b8b56f1b6806b32e", func := "selvage/selvagelaw15.SideBack", spec := "sideBack", inPlace := ["internal/abi.NoEscape", "internal/bytealg.MakeNoZero", "internal/reflectlite.ValueOf", "(internal/reflectlite.Value).Type", "(internal/reflectlite.Value).IsNil", "internal/reflectlite.TypeOf", "(internal/reflectlite.Value).Elem", "(internal/reflectlite.Value).Set"], unfollowed := true, recurses := true, named := ["errors.errorType"], apart := false, laid := [("errors.errorType", laid_errors_errorType)] }
def SideBackSaid : Prop := sideBackRow.holds Tryd.pinned (OpenSpec.ofChange sideBackSpec)

/-- ITS FALSE NEIGHBOUR: 'it returns false'. Refute it at one input. -/
def sideBackWrong : ChangeSpec := { name := "sideBack", fn := fun _ => fun
  | [d] => { results := [.lit (.bool false)], args := [d] }
  | _ => none }
def SideBackWrongFalsely : Prop := sideBackRow.holds Tryd.pinned (OpenSpec.ofChange sideBackWrong)

/-- 'selvagelaw15.SidePrints': WHATEVER THE INPUT: true; the input reads as it did. -/
def sidePrintsSpec : ChangeSpec := { name := "sidePrints", fn := fun _ => fun
  | [d] => { results := [.lit (.bool true)], args := [d] }
  | _ => none }
def sidePrintsRow : OpenClaim := { program := "ytjlobgcmhnkgnaadoor", sum := "d668b4c177a310a3e7cfcd49c600c0c1a6aa7ae9bb27aef8b8b56f1b6806b32e", func := "selvage/selvagelaw15.SidePrints", spec := "sidePrints", inPlace := ["internal/bytealg.IndexByteString", "internal/abi.NoEscape", "internal/bytealg.MakeNoZero", "internal/reflectlite.ValueOf", "(internal/reflectlite.Value).Type", "(internal/reflectlite.Value).IsNil", "internal/reflectlite.TypeOf", "(internal/reflectlite.Value).Elem", "(internal/reflectlite.Value).Set"], unfollowed := true, recurses := true, named := ["errors.errorType"], apart := false, laid := [("errors.errorType", laid_errors_errorType)] }
def SidePrintsSaid : Prop := sidePrintsRow.holds Tryd.pinned (OpenSpec.ofChange sidePrintsSpec)

/-- ITS FALSE NEIGHBOUR: 'it returns false'. Refute it at one input. -/
def sidePrintsWrong : ChangeSpec := { name := "sidePrints", fn := fun _ => fun
  | [d] => { results := [.lit (.bool false)], args := [d] }
  | _ => none }
def SidePrintsWrongFalsely : Prop := sidePrintsRow.holds Tryd.pinned (OpenSpec.ofChange sidePrintsWrong)

/-- 'selvagelaw15.SideCuts': WHATEVER THE INPUT: true; the input reads as it did. -/
def sideCutsSpec : ChangeSpec := { name := "sideCuts", fn := fun _ => fun
  | [d1, d2, d3] => { results := [.lit (.bool true)], args := [d1, d2, d3] }
  | _ => none }
def sideCutsRow : OpenClaim := { program := "ytjlobgcmhnkgnaadoor", sum := "d668b4c177a310a3e7cfcd49c600c0c1a6aa7ae9bb27aef8b8b56f1b6806b32e", func := "selvage/selvagelaw15.SideCuts", spec := "sideCuts", inPlace := ["internal/abi.NoEscape", "internal/bytealg.MakeNoZero", "internal/bytealg.IndexByteString", "internal/reflectlite.ValueOf", "(internal/reflectlite.Value).Type", "(internal/reflectlite.Value).IsNil", "internal/reflectlite.TypeOf", "(internal/reflectlite.Value).Elem", "(internal/reflectlite.Value).Set"], unfollowed := true, recurses := true, named := ["errors.errorType"], apart := false, laid := [("errors.errorType", laid_errors_errorType)] }
def SideCutsSaid : Prop := sideCutsRow.holds Tryd.pinned (OpenSpec.ofChange sideCutsSpec)

/-- ITS FALSE NEIGHBOUR: 'it returns false'. Refute it at one input. -/
def sideCutsWrong : ChangeSpec := { name := "sideCuts", fn := fun _ => fun
  | [d1, d2, d3] => { results := [.lit (.bool false)], args := [d1, d2, d3] }
  | _ => none }
def SideCutsWrongFalsely : Prop := sideCutsRow.holds Tryd.pinned (OpenSpec.ofChange sideCutsWrong)

/-- 'selvagelaw15.SideFits': WHATEVER THE INPUT: true; the input reads as it did. -/
def sideFitsSpec : ChangeSpec := { name := "sideFits", fn := fun _ => fun
  | [d] => { results := [.lit (.bool true)], args := [d] }
  | _ => none }
def sideFitsRow : OpenClaim := { program := "ytjlobgcmhnkgnaadoor", sum := "d668b4c177a310a3e7cfcd49c600c0c1a6aa7ae9bb27aef8b8b56f1b6806b32e", func := "selvage/selvagelaw15.SideFits", spec := "sideFits", inPlace := ["internal/bytealg.IndexByteString", "internal/abi.NoEscape", "internal/bytealg.MakeNoZero", "internal/reflectlite.ValueOf", "(internal/reflectlite.Value).Type", "(internal/reflectlite.Value).IsNil", "internal/reflectlite.TypeOf", "(internal/reflectlite.Value).Elem", "(internal/reflectlite.Value).Set"], unfollowed := true, recurses := true, named := ["errors.errorType"], apart := false, laid := [("errors.errorType", laid_errors_errorType)] }
def SideFitsSaid : Prop := sideFitsRow.holds Tryd.pinned (OpenSpec.ofChange sideFitsSpec)

/-- ITS FALSE NEIGHBOUR: 'it returns false'. Refute it at one input. -/
def sideFitsWrong : ChangeSpec := { name := "sideFits", fn := fun _ => fun
  | [d] => { results := [.lit (.bool false)], args := [d] }
  | _ => none }
def SideFitsWrongFalsely : Prop := sideFitsRow.holds Tryd.pinned (OpenSpec.ofChange sideFitsWrong)

/- THE SECOND FORM. 'bulk': how many values and letters a reading holds, each counted each time it is reached (what is shared counts as often as it is met; a slice's spare places count too). A statement '..UptoSaid' is the law's where the arguments, and the package variables that the reading takes, are together of bulk at most 1048576: NARROWER than '..Said'. Prove '..Said' where nothing that the law and all that it calls make is longer than what came in: it says more and counts as full. Else prove '..UptoSaid'. A law counts once. -/
mutual
def uptoBulk {H : Type} : DataW H → Nat
  | .lit (.string bytes) => bytes.length + 1
  | .lit _ => 1
  | .nil => 1
  | .ptr d => uptoBulk d + 1
  | .slice elems spare => uptoBulkAll elems + uptoBulkAll spare + 1
  | .agg parts => uptoBulkAll parts + 1
  | .iface _ d => uptoBulk d + 1
  | .map entries => uptoBulkEntries entries + 1
  | .held _ => 1
def uptoBulkAll {H : Type} : List (DataW H) → Nat
  | [] => 0
  | d :: r => uptoBulk d + uptoBulkAll r
def uptoBulkEntries {H : Type} : List (Lit × DataW H) → Nat
  | [] => 0
  | x :: r => uptoBulkEntry x + uptoBulkEntries r
def uptoBulkEntry {H : Type} : Lit × DataW H → Nat
  | (.string bytes, d) => bytes.length + uptoBulk d + 1
  | (_, d) => uptoBulk d + 1
 end
def uptoSmall : (H : Type) → List (DataW H) → Bool := fun _ ds => decide (uptoBulkAll ds ≤ 1048576)
def OpenSpec.upto (s : _root_.Go.ChangeSpec) : _root_.Go.OpenSpec := { _root_.Go.OpenSpec.ofChange s with cond := some uptoSmall }

/-- 'selvagelaw15.SideInlines', WHERE WHAT IT READS IS OF BULK AT MOST 1048576: true; the input reads as it did. -/
def sideInlinesUptoRow : OpenClaim := { program := "ytjlobgcmhnkgnaadoor", sum := "d668b4c177a310a3e7cfcd49c600c0c1a6aa7ae9bb27aef8b8b56f1b6806b32e", func := "selvage/selvagelaw15.SideInlines", spec := "sideInlines", inPlace := ["internal/abi.NoEscape", "internal/bytealg.MakeNoZero", "internal/reflectlite.ValueOf", "(internal/reflectlite.Value).Type", "(internal/reflectlite.Value).IsNil", "internal/reflectlite.TypeOf", "(internal/reflectlite.Value).Elem", "(internal/reflectlite.Value).Set"], unfollowed := true, recurses := true, named := ["errors.errorType"], apart := false, laid := [("errors.errorType", laid_errors_errorType)], narrowed := true }
def SideInlinesUptoSaid : Prop := sideInlinesUptoRow.holds Tryd.pinned (OpenSpec.upto sideInlinesSpec)

/-- 'selvagelaw15.SideBack', WHERE WHAT IT READS IS OF BULK AT MOST 1048576: true; the input reads as it did. -/
def sideBackUptoRow : OpenClaim := { program := "ytjlobgcmhnkgnaadoor", sum := "d668b4c177a310a3e7cfcd49c600c0c1a6aa7ae9bb27aef8b8b56f1b6806b32e", func := "selvage/selvagelaw15.SideBack", spec := "sideBack", inPlace := ["internal/abi.NoEscape", "internal/bytealg.MakeNoZero", "internal/reflectlite.ValueOf", "(internal/reflectlite.Value).Type", "(internal/reflectlite.Value).IsNil", "internal/reflectlite.TypeOf", "(internal/reflectlite.Value).Elem", "(internal/reflectlite.Value).Set"], unfollowed := true, recurses := true, named := ["errors.errorType"], apart := false, laid := [("errors.errorType", laid_errors_errorType)], narrowed := true }
def SideBackUptoSaid : Prop := sideBackUptoRow.holds Tryd.pinned (OpenSpec.upto sideBackSpec)

/-- 'selvagelaw15.SidePrints', WHERE WHAT IT READS IS OF BULK AT MOST 1048576: true; the input reads as it did. -/
def sidePrintsUptoRow : OpenClaim := { program := "ytjlobgcmhnkgnaadoor", sum := "d668b4c177a310a3e7cfcd49c600c0c1a6aa7ae9bb27aef8b8b56f1b6806b32e", func := "selvage/selvagelaw15.SidePrints", spec := "sidePrints", inPlace := ["internal/bytealg.IndexByteString", "internal/abi.NoEscape", "internal/bytealg.MakeNoZero", "internal/reflectlite.ValueOf", "(internal/reflectlite.Value).Type", "(internal/reflectlite.Value).IsNil", "internal/reflectlite.TypeOf", "(internal/reflectlite.Value).Elem", "(internal/reflectlite.Value).Set"], unfollowed := true, recurses := true, named := ["errors.errorType"], apart := false, laid := [("errors.errorType", laid_errors_errorType)], narrowed := true }
def SidePrintsUptoSaid : Prop := sidePrintsUptoRow.holds Tryd.pinned (OpenSpec.upto sidePrintsSpec)

/-- 'selvagelaw15.SideCuts', WHERE WHAT IT READS IS OF BULK AT MOST 1048576: true; the input reads as it did. -/
def sideCutsUptoRow : OpenClaim := { program := "ytjlobgcmhnkgnaadoor", sum := "d668b4c177a310a3e7cfcd49c600c0c1a6aa7ae9bb27aef8b8b56f1b6806b32e", func := "selvage/selvagelaw15.SideCuts", spec := "sideCuts", inPlace := ["internal/abi.NoEscape", "internal/bytealg.MakeNoZero", "internal/bytealg.IndexByteString", "internal/reflectlite.ValueOf", "(internal/reflectlite.Value).Type", "(internal/reflectlite.Value).IsNil", "internal/reflectlite.TypeOf", "(internal/reflectlite.Value).Elem", "(internal/reflectlite.Value).Set"], unfollowed := true, recurses := true, named := ["errors.errorType"], apart := false, laid := [("errors.errorType", laid_errors_errorType)], narrowed := true }
def SideCutsUptoSaid : Prop := sideCutsUptoRow.holds Tryd.pinned (OpenSpec.upto sideCutsSpec)

/-- 'selvagelaw15.SideFits', WHERE WHAT IT READS IS OF BULK AT MOST 1048576: true; the input reads as it did. -/
def sideFitsUptoRow : OpenClaim := { program := "ytjlobgcmhnkgnaadoor", sum := "d668b4c177a310a3e7cfcd49c600c0c1a6aa7ae9bb27aef8b8b56f1b6806b32e", func := "selvage/selvagelaw15.SideFits", spec := "sideFits", inPlace := ["internal/bytealg.IndexByteString", "internal/abi.NoEscape", "internal/bytealg.MakeNoZero", "internal/reflectlite.ValueOf", "(internal/reflectlite.Value).Type", "(internal/reflectlite.Value).IsNil", "internal/reflectlite.TypeOf", "(internal/reflectlite.Value).Elem", "(internal/reflectlite.Value).Set"], unfollowed := true, recurses := true, named := ["errors.errorType"], apart := false, laid := [("errors.errorType", laid_errors_errorType)], narrowed := true }
def SideFitsUptoSaid : Prop := sideFitsUptoRow.holds Tryd.pinned (OpenSpec.upto sideFitsSpec)

end Rows
end Go.Proofs.YtjlobgcmhnkgnaaDoor
