/-
  NARROWER THAN 'FOR EVERY INPUT', by the rows' own cells (each row's printed sentence says how): MergeChunks: laid · MergeTexts: laid · MergeCovers: laid · MergeOnes: laid · MergeTurned: laid · MergeSettled: laid · MergeApart: laid · MergeOntos: laid · MergeLeads: laid.
  DERIVED. THE GIVEN ROWS OF THIS SEAT. 9 by the template 'for every input the law returns true; each argument reads behind the call as it read before'; 0 by the template 'total and deterministic' (their statements: YtlmjkphiicmclaaDoorTotals.lean).
  GIVEN WITH THE SEED: the statements are not yours to turn. If you find one false, say at which input.
  Laid BY PROGRAM, IN A SANDBOX (cutbox-rows.mjs): the forced cells as the released guide's own fill.sh prints them over the translation a1e406a835b27405… (all of the seat's roots in one cut). By AI agents, Wed Nov 11 2026. No macro, syntax, notation, axiom, sorry.
-/
import Derived.Test.YtlmjkphiicmclaaDoorChecked
import GoSem.Claim
import GoSem.ClaimJoined
import GoSem.ClaimMapViews
import Derived.JoinedTies
import Derived.KernelRfl
namespace Go.Proofs.YtlmjkphiicmclaaDoor
/- THE CELL 'sum', in the pinned program and in every row, IS THE sha256 OF THE DUMP (.gsa) THAT YtlmjkphiicmclaaDoorProg.lean LOADS. Nothing in Lean hashes anything: it is a label: what it is worth is what the hold of that sum in a sandbox is worth. -/
noncomputable def Tryd.pinned : Pinned := { name := "ytlmjkphiicmclaadoor", sum := "a1e406a835b27405d5eab3c9be4f4f3cf933af6cce6b2a1e466db6804ed6c1c8", checked := Tryd.checked }
namespace Rows
def none {H : Type} : Left H := { results := [], args := [] }

/- WHAT THE LISTED PACKAGE-LEVEL VARIABLES READ AS WHEN THE CALL BEGINS. Each datum BY PROGRAM (the guide's laid-datum.mjs) off the statement by which the dump's own 'gosem.cut.vars' lays the variable. In a bare row this is a premise. The card (YtlmjkphiicmclaaDoorCards.lean) ties it to the program's text. -/
def laid_errors_errorType {H : Type} : DataW H := .iface "internal/reflectlite.rtype" (.agg [.ptr (.lit (.string [101, 114, 114, 111, 114]))])
def laid_math_bits_deBruijn32tab {H : Type} : DataW H := .agg [.lit (.int .u8 0), .lit (.int .u8 1), .lit (.int .u8 28), .lit (.int .u8 2), .lit (.int .u8 29), .lit (.int .u8 14), .lit (.int .u8 24), .lit (.int .u8 3), .lit (.int .u8 30), .lit (.int .u8 22), .lit (.int .u8 20), .lit (.int .u8 15), .lit (.int .u8 25), .lit (.int .u8 17), .lit (.int .u8 4), .lit (.int .u8 8), .lit (.int .u8 31), .lit (.int .u8 27), .lit (.int .u8 13), .lit (.int .u8 23), .lit (.int .u8 21), .lit (.int .u8 19), .lit (.int .u8 16), .lit (.int .u8 7), .lit (.int .u8 26), .lit (.int .u8 12), .lit (.int .u8 18), .lit (.int .u8 6), .lit (.int .u8 11), .lit (.int .u8 5), .lit (.int .u8 10), .lit (.int .u8 9)]
def laid_math_bits_deBruijn64tab {H : Type} : DataW H := .agg [.lit (.int .u8 0), .lit (.int .u8 1), .lit (.int .u8 56), .lit (.int .u8 2), .lit (.int .u8 57), .lit (.int .u8 49), .lit (.int .u8 28), .lit (.int .u8 3), .lit (.int .u8 61), .lit (.int .u8 58), .lit (.int .u8 42), .lit (.int .u8 50), .lit (.int .u8 38), .lit (.int .u8 29), .lit (.int .u8 17), .lit (.int .u8 4), .lit (.int .u8 62), .lit (.int .u8 47), .lit (.int .u8 59), .lit (.int .u8 36), .lit (.int .u8 45), .lit (.int .u8 43), .lit (.int .u8 51), .lit (.int .u8 22), .lit (.int .u8 53), .lit (.int .u8 39), .lit (.int .u8 33), .lit (.int .u8 30), .lit (.int .u8 24), .lit (.int .u8 18), .lit (.int .u8 12), .lit (.int .u8 5), .lit (.int .u8 63), .lit (.int .u8 55), .lit (.int .u8 48), .lit (.int .u8 27), .lit (.int .u8 60), .lit (.int .u8 41), .lit (.int .u8 37), .lit (.int .u8 16), .lit (.int .u8 46), .lit (.int .u8 35), .lit (.int .u8 44), .lit (.int .u8 21), .lit (.int .u8 52), .lit (.int .u8 32), .lit (.int .u8 23), .lit (.int .u8 11), .lit (.int .u8 54), .lit (.int .u8 26), .lit (.int .u8 40), .lit (.int .u8 15), .lit (.int .u8 34), .lit (.int .u8 20), .lit (.int .u8 31), .lit (.int .u8 10), .lit (.int .u8 25), .lit (.int .u8 14), .lit (.int .u8 19), .lit (.int .u8 9), .lit (.int .u8 13), .lit (.int .u8 8), .lit (.int .u8 7), .lit (.int .u8 6)]
def laid_internal_strconv_uint64pow10 {H : Type} : DataW H := .agg [.lit (.int .u64 1), .lit (.int .u64 10), .lit (.int .u64 100), .lit (.int .u64 1000), .lit (.int .u64 10000), .lit (.int .u64 100000), .lit (.int .u64 1000000), .lit (.int .u64 10000000), .lit (.int .u64 100000000), .lit (.int .u64 1000000000), .lit (.int .u64 10000000000), .lit (.int .u64 100000000000), .lit (.int .u64 1000000000000), .lit (.int .u64 10000000000000), .lit (.int .u64 100000000000000), .lit (.int .u64 1000000000000000), .lit (.int .u64 10000000000000000), .lit (.int .u64 100000000000000000), .lit (.int .u64 1000000000000000000), .lit (.int .u64 10000000000000000000)]

/-- 'selvagelaw18.MergeChunks': WHATEVER THE INPUT: true; the input reads as it did. -/
def mergeChunksSpec : ChangeSpec := { name := "mergeChunks", fn := fun _ => fun
  | [d] => { results := [.lit (.bool true)], args := [d] }
  | _ => none }
def mergeChunksRow : OpenClaim := { program := "ytlmjkphiicmclaadoor", sum := "a1e406a835b27405d5eab3c9be4f4f3cf933af6cce6b2a1e466db6804ed6c1c8", func := "selvage/selvagelaw18.MergeChunks", spec := "mergeChunks", inPlace := ["internal/bytealg.IndexByteString", "internal/reflectlite.ValueOf", "(internal/reflectlite.Value).Type", "(internal/reflectlite.Value).IsNil", "internal/reflectlite.TypeOf", "(internal/reflectlite.Value).Elem", "(internal/reflectlite.Value).Set", "internal/bytealg.IndexString", "internal/abi.NoEscape"], unfollowed := true, recurses := true, named := ["errors.errorType", "internal/bytealg.MaxLen"], apart := false, laid := [("errors.errorType", laid_errors_errorType)] }
def MergeChunksSaid : Prop := mergeChunksRow.holds Tryd.pinned (OpenSpec.ofChange mergeChunksSpec)

/-- ITS FALSE NEIGHBOUR: 'it returns false'. Refute it at one input. -/
def mergeChunksWrong : ChangeSpec := { name := "mergeChunks", fn := fun _ => fun
  | [d] => { results := [.lit (.bool false)], args := [d] }
  | _ => none }
def MergeChunksWrongFalsely : Prop := mergeChunksRow.holds Tryd.pinned (OpenSpec.ofChange mergeChunksWrong)

/-- 'selvagelaw18.MergeTexts': WHATEVER THE INPUT: true; the input reads as it did. -/
def mergeTextsSpec : ChangeSpec := { name := "mergeTexts", fn := fun _ => fun
  | [d] => { results := [.lit (.bool true)], args := [d] }
  | _ => none }
def mergeTextsRow : OpenClaim := { program := "ytlmjkphiicmclaadoor", sum := "a1e406a835b27405d5eab3c9be4f4f3cf933af6cce6b2a1e466db6804ed6c1c8", func := "selvage/selvagelaw18.MergeTexts", spec := "mergeTexts", inPlace := ["internal/bytealg.IndexByteString", "internal/bytealg.IndexString", "internal/abi.NoEscape", "internal/reflectlite.ValueOf", "(internal/reflectlite.Value).Type", "(internal/reflectlite.Value).IsNil", "internal/reflectlite.TypeOf", "(internal/reflectlite.Value).Elem", "(internal/reflectlite.Value).Set"], unfollowed := true, recurses := true, named := ["internal/bytealg.MaxLen", "errors.errorType"], apart := false, laid := [("errors.errorType", laid_errors_errorType)] }
def MergeTextsSaid : Prop := mergeTextsRow.holds Tryd.pinned (OpenSpec.ofChange mergeTextsSpec)

/-- ITS FALSE NEIGHBOUR: 'it returns false'. Refute it at one input. -/
def mergeTextsWrong : ChangeSpec := { name := "mergeTexts", fn := fun _ => fun
  | [d] => { results := [.lit (.bool false)], args := [d] }
  | _ => none }
def MergeTextsWrongFalsely : Prop := mergeTextsRow.holds Tryd.pinned (OpenSpec.ofChange mergeTextsWrong)

/-- 'selvagelaw18.MergeCovers': WHATEVER THE INPUT: true; the input reads as it did. -/
def mergeCoversSpec : ChangeSpec := { name := "mergeCovers", fn := fun _ => fun
  | [d] => { results := [.lit (.bool true)], args := [d] }
  | _ => none }
def mergeCoversRow : OpenClaim := { program := "ytlmjkphiicmclaadoor", sum := "a1e406a835b27405d5eab3c9be4f4f3cf933af6cce6b2a1e466db6804ed6c1c8", func := "selvage/selvagelaw18.MergeCovers", spec := "mergeCovers", inPlace := ["internal/bytealg.IndexByteString", "internal/bytealg.IndexString", "internal/abi.NoEscape", "internal/reflectlite.ValueOf", "(internal/reflectlite.Value).Type", "(internal/reflectlite.Value).IsNil", "internal/reflectlite.TypeOf", "(internal/reflectlite.Value).Elem", "(internal/reflectlite.Value).Set"], unfollowed := true, recurses := true, named := ["internal/bytealg.MaxLen", "errors.errorType"], apart := false, laid := [("errors.errorType", laid_errors_errorType)] }
def MergeCoversSaid : Prop := mergeCoversRow.holds Tryd.pinned (OpenSpec.ofChange mergeCoversSpec)

/-- ITS FALSE NEIGHBOUR: 'it returns false'. Refute it at one input. -/
def mergeCoversWrong : ChangeSpec := { name := "mergeCovers", fn := fun _ => fun
  | [d] => { results := [.lit (.bool false)], args := [d] }
  | _ => none }
def MergeCoversWrongFalsely : Prop := mergeCoversRow.holds Tryd.pinned (OpenSpec.ofChange mergeCoversWrong)

/-- 'selvagelaw18.MergeOnes': WHATEVER THE INPUT: true; the input reads as it did. -/
def mergeOnesSpec : ChangeSpec := { name := "mergeOnes", fn := fun _ => fun
  | [d1, d2, d3] => { results := [.lit (.bool true)], args := [d1, d2, d3] }
  | _ => none }
def mergeOnesRow : OpenClaim := { program := "ytlmjkphiicmclaadoor", sum := "a1e406a835b27405d5eab3c9be4f4f3cf933af6cce6b2a1e466db6804ed6c1c8", func := "selvage/selvagelaw18.MergeOnes", spec := "mergeOnes", inPlace := ["internal/bytealg.IndexByteString", "internal/bytealg.IndexString", "internal/abi.NoEscape", "internal/reflectlite.ValueOf", "(internal/reflectlite.Value).Type", "(internal/reflectlite.Value).IsNil", "internal/reflectlite.TypeOf", "(internal/reflectlite.Value).Elem", "(internal/reflectlite.Value).Set"], unfollowed := true, recurses := true, named := ["internal/bytealg.MaxLen", "errors.errorType"], apart := false, laid := [("errors.errorType", laid_errors_errorType)] }
def MergeOnesSaid : Prop := mergeOnesRow.holds Tryd.pinned (OpenSpec.ofChange mergeOnesSpec)

/-- ITS FALSE NEIGHBOUR: 'it returns false'. Refute it at one input. -/
def mergeOnesWrong : ChangeSpec := { name := "mergeOnes", fn := fun _ => fun
  | [d1, d2, d3] => { results := [.lit (.bool false)], args := [d1, d2, d3] }
  | _ => none }
def MergeOnesWrongFalsely : Prop := mergeOnesRow.holds Tryd.pinned (OpenSpec.ofChange mergeOnesWrong)

/-- 'selvagelaw18.MergeTurned': WHATEVER THE INPUT: true; the input reads as it did. -/
def mergeTurnedSpec : ChangeSpec := { name := "mergeTurned", fn := fun _ => fun
  | [d] => { results := [.lit (.bool true)], args := [d] }
  | _ => none }
def mergeTurnedRow : OpenClaim := { program := "ytlmjkphiicmclaadoor", sum := "a1e406a835b27405d5eab3c9be4f4f3cf933af6cce6b2a1e466db6804ed6c1c8", func := "selvage/selvagelaw18.MergeTurned", spec := "mergeTurned", inPlace := ["internal/bytealg.IndexByteString", "internal/bytealg.IndexString", "internal/abi.NoEscape", "internal/reflectlite.ValueOf", "(internal/reflectlite.Value).Type", "(internal/reflectlite.Value).IsNil", "internal/reflectlite.TypeOf", "(internal/reflectlite.Value).Elem", "(internal/reflectlite.Value).Set"], unfollowed := true, recurses := true, named := ["internal/bytealg.MaxLen", "errors.errorType"], apart := false, laid := [("errors.errorType", laid_errors_errorType)] }
def MergeTurnedSaid : Prop := mergeTurnedRow.holds Tryd.pinned (OpenSpec.ofChange mergeTurnedSpec)

/-- ITS FALSE NEIGHBOUR: 'it returns false'. Refute it at one input. -/
def mergeTurnedWrong : ChangeSpec := { name := "mergeTurned", fn := fun _ => fun
  | [d] => { results := [.lit (.bool false)], args := [d] }
  | _ => none }
def MergeTurnedWrongFalsely : Prop := mergeTurnedRow.holds Tryd.pinned (OpenSpec.ofChange mergeTurnedWrong)

/-- 'selvagelaw18.MergeSettled': WHATEVER THE INPUT: true; the input reads as it did. -/
def mergeSettledSpec : ChangeSpec := { name := "mergeSettled", fn := fun _ => fun
  | [d] => { results := [.lit (.bool true)], args := [d] }
  | _ => none }
def mergeSettledRow : OpenClaim := { program := "ytlmjkphiicmclaadoor", sum := "a1e406a835b27405d5eab3c9be4f4f3cf933af6cce6b2a1e466db6804ed6c1c8", func := "selvage/selvagelaw18.MergeSettled", spec := "mergeSettled", inPlace := ["internal/bytealg.IndexByteString", "internal/bytealg.IndexString", "internal/abi.NoEscape", "internal/reflectlite.ValueOf", "(internal/reflectlite.Value).Type", "(internal/reflectlite.Value).IsNil", "internal/reflectlite.TypeOf", "(internal/reflectlite.Value).Elem", "(internal/reflectlite.Value).Set"], unfollowed := true, recurses := true, named := ["internal/bytealg.MaxLen", "errors.errorType"], apart := false, laid := [("errors.errorType", laid_errors_errorType)] }
def MergeSettledSaid : Prop := mergeSettledRow.holds Tryd.pinned (OpenSpec.ofChange mergeSettledSpec)

/-- ITS FALSE NEIGHBOUR: 'it returns false'. Refute it at one input. -/
def mergeSettledWrong : ChangeSpec := { name := "mergeSettled", fn := fun _ => fun
  | [d] => { results := [.lit (.bool false)], args := [d] }
  | _ => none }
def MergeSettledWrongFalsely : Prop := mergeSettledRow.holds Tryd.pinned (OpenSpec.ofChange mergeSettledWrong)

/-- 'selvagelaw18.MergeApart': WHATEVER THE INPUT: true; the input reads as it did. -/
def mergeApartSpec : ChangeSpec := { name := "mergeApart", fn := fun _ => fun
  | [d] => { results := [.lit (.bool true)], args := [d] }
  | _ => none }
def mergeApartRow : OpenClaim := { program := "ytlmjkphiicmclaadoor", sum := "a1e406a835b27405d5eab3c9be4f4f3cf933af6cce6b2a1e466db6804ed6c1c8", func := "selvage/selvagelaw18.MergeApart", spec := "mergeApart", inPlace := ["internal/bytealg.IndexByteString", "internal/bytealg.IndexString", "internal/abi.NoEscape", "internal/reflectlite.ValueOf", "(internal/reflectlite.Value).Type", "(internal/reflectlite.Value).IsNil", "internal/reflectlite.TypeOf", "(internal/reflectlite.Value).Elem", "(internal/reflectlite.Value).Set"], unfollowed := true, recurses := true, named := ["internal/bytealg.MaxLen", "errors.errorType"], apart := false, laid := [("errors.errorType", laid_errors_errorType)] }
def MergeApartSaid : Prop := mergeApartRow.holds Tryd.pinned (OpenSpec.ofChange mergeApartSpec)

/-- ITS FALSE NEIGHBOUR: 'it returns false'. Refute it at one input. -/
def mergeApartWrong : ChangeSpec := { name := "mergeApart", fn := fun _ => fun
  | [d] => { results := [.lit (.bool false)], args := [d] }
  | _ => none }
def MergeApartWrongFalsely : Prop := mergeApartRow.holds Tryd.pinned (OpenSpec.ofChange mergeApartWrong)

/-- 'selvagelaw18.MergeOntos': WHATEVER THE INPUT: true; the input reads as it did. -/
def mergeOntosSpec : ChangeSpec := { name := "mergeOntos", fn := fun _ => fun
  | [d] => { results := [.lit (.bool true)], args := [d] }
  | _ => none }
def mergeOntosRow : OpenClaim := { program := "ytlmjkphiicmclaadoor", sum := "a1e406a835b27405d5eab3c9be4f4f3cf933af6cce6b2a1e466db6804ed6c1c8", func := "selvage/selvagelaw18.MergeOntos", spec := "mergeOntos", inPlace := ["internal/bytealg.IndexByteString", "internal/bytealg.IndexString", "internal/abi.NoEscape", "internal/reflectlite.ValueOf", "(internal/reflectlite.Value).Type", "(internal/reflectlite.Value).IsNil", "internal/reflectlite.TypeOf", "(internal/reflectlite.Value).Elem", "(internal/reflectlite.Value).Set"], unfollowed := true, recurses := true, named := ["internal/bytealg.MaxLen", "errors.errorType"], apart := false, laid := [("errors.errorType", laid_errors_errorType)] }
def MergeOntosSaid : Prop := mergeOntosRow.holds Tryd.pinned (OpenSpec.ofChange mergeOntosSpec)

/-- ITS FALSE NEIGHBOUR: 'it returns false'. Refute it at one input. -/
def mergeOntosWrong : ChangeSpec := { name := "mergeOntos", fn := fun _ => fun
  | [d] => { results := [.lit (.bool false)], args := [d] }
  | _ => none }
def MergeOntosWrongFalsely : Prop := mergeOntosRow.holds Tryd.pinned (OpenSpec.ofChange mergeOntosWrong)

/-- 'selvagelaw18.MergeLeads': WHATEVER THE INPUT: true; the input reads as it did. -/
def mergeLeadsSpec : ChangeSpec := { name := "mergeLeads", fn := fun _ => fun
  | [d] => { results := [.lit (.bool true)], args := [d] }
  | _ => none }
def mergeLeadsRow : OpenClaim := { program := "ytlmjkphiicmclaadoor", sum := "a1e406a835b27405d5eab3c9be4f4f3cf933af6cce6b2a1e466db6804ed6c1c8", func := "selvage/selvagelaw18.MergeLeads", spec := "mergeLeads", inPlace := ["internal/bytealg.IndexByteString", "internal/bytealg.IndexString", "internal/abi.NoEscape", "internal/reflectlite.ValueOf", "(internal/reflectlite.Value).Type", "(internal/reflectlite.Value).IsNil", "internal/reflectlite.TypeOf", "(internal/reflectlite.Value).Elem", "(internal/reflectlite.Value).Set"], unfollowed := true, recurses := true, named := ["internal/bytealg.MaxLen", "errors.errorType", "internal/strconv.uint64pow10", "math/bits.deBruijn32tab", "math/bits.deBruijn64tab"], apart := false, laid := [("math/bits.deBruijn32tab", laid_math_bits_deBruijn32tab), ("math/bits.deBruijn64tab", laid_math_bits_deBruijn64tab), ("internal/strconv.uint64pow10", laid_internal_strconv_uint64pow10), ("errors.errorType", laid_errors_errorType)] }
def MergeLeadsSaid : Prop := mergeLeadsRow.holds Tryd.pinned (OpenSpec.ofChange mergeLeadsSpec)

/-- ITS FALSE NEIGHBOUR: 'it returns false'. Refute it at one input. -/
def mergeLeadsWrong : ChangeSpec := { name := "mergeLeads", fn := fun _ => fun
  | [d] => { results := [.lit (.bool false)], args := [d] }
  | _ => none }
def MergeLeadsWrongFalsely : Prop := mergeLeadsRow.holds Tryd.pinned (OpenSpec.ofChange mergeLeadsWrong)

/- THE SECOND FORM. 'bulk': how many values and letters a reading holds, each counted each time it is reached (what is shared counts as often as it is met; a slice's spare places count too). A statement '..UptoSaid' is the law's where the arguments, and the package variables that the reading takes, are together of bulk at most 1048576: NARROWER than '..Said'. Prove '..Said' where nothing that the law and all that it calls make is longer than what came in: it says more and counts as full. Else prove '..UptoSaid'. A law counts once. -/
mutual
def uptoBulk {H : Type} : DataW H → Nat
  | .lit (.string bytes) => bytes.length + 1
  | .lit _ => 1
  | .nil => 1
  | .ptr d => uptoBulk d + 1
  | .slice elems spare => uptoBulkAll elems + uptoBulkAll spare + 1
  | .agg parts => uptoBulkAll parts + 1
  | .iface _ d => uptoBulk d + 1
  | .map entries => uptoBulkEntries entries + 1
  | .held _ => 1
def uptoBulkAll {H : Type} : List (DataW H) → Nat
  | [] => 0
  | d :: r => uptoBulk d + uptoBulkAll r
def uptoBulkEntries {H : Type} : List (Lit × DataW H) → Nat
  | [] => 0
  | x :: r => uptoBulkEntry x + uptoBulkEntries r
def uptoBulkEntry {H : Type} : Lit × DataW H → Nat
  | (.string bytes, d) => bytes.length + uptoBulk d + 1
  | (_, d) => uptoBulk d + 1
 end
def uptoSmall : (H : Type) → List (DataW H) → Bool := fun _ ds => decide (uptoBulkAll ds ≤ 1048576)
def OpenSpec.upto (s : _root_.Go.ChangeSpec) : _root_.Go.OpenSpec := { _root_.Go.OpenSpec.ofChange s with cond := some uptoSmall }

/-- 'selvagelaw18.MergeChunks', WHERE WHAT IT READS IS OF BULK AT MOST 1048576: true; the input reads as it did. -/
def mergeChunksUptoRow : OpenClaim := { program := "ytlmjkphiicmclaadoor", sum := "a1e406a835b27405d5eab3c9be4f4f3cf933af6cce6b2a1e466db6804ed6c1c8", func := "selvage/selvagelaw18.MergeChunks", spec := "mergeChunks", inPlace := ["internal/bytealg.IndexByteString", "internal/reflectlite.ValueOf", "(internal/reflectlite.Value).Type", "(internal/reflectlite.Value).IsNil", "internal/reflectlite.TypeOf", "(internal/reflectlite.Value).Elem", "(internal/reflectlite.Value).Set", "internal/bytealg.IndexString", "internal/abi.NoEscape"], unfollowed := true, recurses := true, named := ["errors.errorType", "internal/bytealg.MaxLen"], apart := false, laid := [("errors.errorType", laid_errors_errorType)], narrowed := true }
def MergeChunksUptoSaid : Prop := mergeChunksUptoRow.holds Tryd.pinned (OpenSpec.upto mergeChunksSpec)

/-- 'selvagelaw18.MergeTexts', WHERE WHAT IT READS IS OF BULK AT MOST 1048576: true; the input reads as it did. -/
def mergeTextsUptoRow : OpenClaim := { program := "ytlmjkphiicmclaadoor", sum := "a1e406a835b27405d5eab3c9be4f4f3cf933af6cce6b2a1e466db6804ed6c1c8", func := "selvage/selvagelaw18.MergeTexts", spec := "mergeTexts", inPlace := ["internal/bytealg.IndexByteString", "internal/bytealg.IndexString", "internal/abi.NoEscape", "internal/reflectlite.ValueOf", "(internal/reflectlite.Value).Type", "(internal/reflectlite.Value).IsNil", "internal/reflectlite.TypeOf", "(internal/reflectlite.Value).Elem", "(internal/reflectlite.Value).Set"], unfollowed := true, recurses := true, named := ["internal/bytealg.MaxLen", "errors.errorType"], apart := false, laid := [("errors.errorType", laid_errors_errorType)], narrowed := true }
def MergeTextsUptoSaid : Prop := mergeTextsUptoRow.holds Tryd.pinned (OpenSpec.upto mergeTextsSpec)

/-- 'selvagelaw18.MergeCovers', WHERE WHAT IT READS IS OF BULK AT MOST 1048576: true; the input reads as it did. -/
def mergeCoversUptoRow : OpenClaim := { program := "ytlmjkphiicmclaadoor", sum := "a1e406a835b27405d5eab3c9be4f4f3cf933af6cce6b2a1e466db6804ed6c1c8", func := "selvage/selvagelaw18.MergeCovers", spec := "mergeCovers", inPlace := ["internal/bytealg.IndexByteString", "internal/bytealg.IndexString", "internal/abi.NoEscape", "internal/reflectlite.ValueOf", "(internal/reflectlite.Value).Type", "(internal/reflectlite.Value).IsNil", "internal/reflectlite.TypeOf", "(internal/reflectlite.Value).Elem", "(internal/reflectlite.Value).Set"], unfollowed := true, recurses := true, named := ["internal/bytealg.MaxLen", "errors.errorType"], apart := false, laid := [("errors.errorType", laid_errors_errorType)], narrowed := true }
def MergeCoversUptoSaid : Prop := mergeCoversUptoRow.holds Tryd.pinned (OpenSpec.upto mergeCoversSpec)

/-- 'selvagelaw18.MergeOnes', WHERE WHAT IT READS IS OF BULK AT MOST 1048576: true; the input reads as it did. -/
def mergeOnesUptoRow : OpenClaim := { program := "ytlmjkphiicmclaadoor", sum := "a1e406a835b27405d5eab3c9be4f4f3cf933af6cce6b2a1e466db6804ed6c1c8", func := "selvage/selvagelaw18.MergeOnes", spec := "mergeOnes", inPlace := ["internal/bytealg.IndexByteString", "internal/bytealg.IndexString", "internal/abi.NoEscape", "internal/reflectlite.ValueOf", "(internal/reflectlite.Value).Type", "(internal/reflectlite.Value).IsNil", "internal/reflectlite.TypeOf", "(internal/reflectlite.Value).Elem", "(internal/reflectlite.Value).Set"], unfollowed := true, recurses := true, named := ["internal/bytealg.MaxLen", "errors.errorType"], apart := false, laid := [("errors.errorType", laid_errors_errorType)], narrowed := true }
def MergeOnesUptoSaid : Prop := mergeOnesUptoRow.holds Tryd.pinned (OpenSpec.upto mergeOnesSpec)

/-- 'selvagelaw18.MergeTurned', WHERE WHAT IT READS IS OF BULK AT MOST 1048576: true; the input reads as it did. -/
def mergeTurnedUptoRow : OpenClaim := { program := "ytlmjkphiicmclaadoor", sum := "a1e406a835b27405d5eab3c9be4f4f3cf933af6cce6b2a1e466db6804ed6c1c8", func := "selvage/selvagelaw18.MergeTurned", spec := "mergeTurned", inPlace := ["internal/bytealg.IndexByteString", "internal/bytealg.IndexString", "internal/abi.NoEscape", "internal/reflectlite.ValueOf", "(internal/reflectlite.Value).Type", "(internal/reflectlite.Value).IsNil", "internal/reflectlite.TypeOf", "(internal/reflectlite.Value).Elem", "(internal/reflectlite.Value).Set"], unfollowed := true, recurses := true, named := ["internal/bytealg.MaxLen", "errors.errorType"], apart := false, laid := [("errors.errorType", laid_errors_errorType)], narrowed := true }
def MergeTurnedUptoSaid : Prop := mergeTurnedUptoRow.holds Tryd.pinned (OpenSpec.upto mergeTurnedSpec)

/-- 'selvagelaw18.MergeSettled', WHERE WHAT IT READS IS OF BULK AT MOST 1048576: true; the input reads as it did. -/
def mergeSettledUptoRow : OpenClaim := { program := "ytlmjkphiicmclaadoor", sum := "a1e406a835b27405d5eab3c9be4f4f3cf933af6cce6b2a1e466db6804ed6c1c8", func := "selvage/selvagelaw18.MergeSettled", spec := "mergeSettled", inPlace := ["internal/bytealg.IndexByteString", "internal/bytealg.IndexString", "internal/abi.NoEscape", "internal/reflectlite.ValueOf", "(internal/reflectlite.Value).Type", "(internal/reflectlite.Value).IsNil", "internal/reflectlite.TypeOf", "(internal/reflectlite.Value).Elem", "(internal/reflectlite.Value).Set"], unfollowed := true, recurses := true, named := ["internal/bytealg.MaxLen", "errors.errorType"], apart := false, laid := [("errors.errorType", laid_errors_errorType)], narrowed := true }
def MergeSettledUptoSaid : Prop := mergeSettledUptoRow.holds Tryd.pinned (OpenSpec.upto mergeSettledSpec)

/-- 'selvagelaw18.MergeApart', WHERE WHAT IT READS IS OF BULK AT MOST 1048576: true; the input reads as it did. -/
def mergeApartUptoRow : OpenClaim := { program := "ytlmjkphiicmclaadoor", sum := "a1e406a835b27405d5eab3c9be4f4f3cf933af6cce6b2a1e466db6804ed6c1c8", func := "selvage/selvagelaw18.MergeApart", spec := "mergeApart", inPlace := ["internal/bytealg.IndexByteString", "internal/bytealg.IndexString", "internal/abi.NoEscape", "internal/reflectlite.ValueOf", "(internal/reflectlite.Value).Type", "(internal/reflectlite.Value).IsNil", "internal/reflectlite.TypeOf", "(internal/reflectlite.Value).Elem", "(internal/reflectlite.Value).Set"], unfollowed := true, recurses := true, named := ["internal/bytealg.MaxLen", "errors.errorType"], apart := false, laid := [("errors.errorType", laid_errors_errorType)], narrowed := true }
def MergeApartUptoSaid : Prop := mergeApartUptoRow.holds Tryd.pinned (OpenSpec.upto mergeApartSpec)

/-- 'selvagelaw18.MergeOntos', WHERE WHAT IT READS IS OF BULK AT MOST 1048576: true; the input reads as it did. -/
def mergeOntosUptoRow : OpenClaim := { program := "ytlmjkphiicmclaadoor", sum := "a1e406a835b27405d5eab3c9be4f4f3cf933af6cce6b2a1e466db6804ed6c1c8", func := "selvage/selvagelaw18.MergeOntos", spec := "mergeOntos", inPlace := ["internal/bytealg.IndexByteString", "internal/bytealg.IndexString", "internal/abi.NoEscape", "internal/reflectlite.ValueOf", "(internal/reflectlite.Value).Type", "(internal/reflectlite.Value).IsNil", "internal/reflectlite.TypeOf", "(internal/reflectlite.Value).Elem", "(internal/reflectlite.Value).Set"], unfollowed := true, recurses := true, named := ["internal/bytealg.MaxLen", "errors.errorType"], apart := false, laid := [("errors.errorType", laid_errors_errorType)], narrowed := true }
def MergeOntosUptoSaid : Prop := mergeOntosUptoRow.holds Tryd.pinned (OpenSpec.upto mergeOntosSpec)

/-- 'selvagelaw18.MergeLeads', WHERE WHAT IT READS IS OF BULK AT MOST 1048576: true; the input reads as it did. -/
def mergeLeadsUptoRow : OpenClaim := { program := "ytlmjkphiicmclaadoor", sum := "a1e406a835b27405d5eab3c9be4f4f3cf933af6cce6b2a1e466db6804ed6c1c8", func := "selvage/selvagelaw18.MergeLeads", spec := "mergeLeads", inPlace := ["internal/bytealg.IndexByteString", "internal/bytealg.IndexString", "internal/abi.NoEscape", "internal/reflectlite.ValueOf", "(internal/reflectlite.Value).Type", "(internal/reflectlite.Value).IsNil", "internal/reflectlite.TypeOf", "(internal/reflectlite.Value).Elem", "(internal/reflectlite.Value).Set"], unfollowed := true, recurses := true, named := ["internal/bytealg.MaxLen", "errors.errorType", "internal/strconv.uint64pow10", "math/bits.deBruijn32tab", "math/bits.deBruijn64tab"], apart := false, laid := [("math/bits.deBruijn32tab", laid_math_bits_deBruijn32tab), ("math/bits.deBruijn64tab", laid_math_bits_deBruijn64tab), ("internal/strconv.uint64pow10", laid_internal_strconv_uint64pow10), ("errors.errorType", laid_errors_errorType)], narrowed := true }
def MergeLeadsUptoSaid : Prop := mergeLeadsUptoRow.holds Tryd.pinned (OpenSpec.upto mergeLeadsSpec)

end Rows
end Go.Proofs.YtlmjkphiicmclaaDoor
