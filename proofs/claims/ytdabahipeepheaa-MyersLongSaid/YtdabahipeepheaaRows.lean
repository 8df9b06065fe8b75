/-
  No cell of these rows narrows 'for every input' (looked for: loops, veiled, ifaces, maps, wideKeys, modest, calm, conditions, laid).
  DERIVED. THE GIVEN ROWS OF THIS SEAT. 4 by the template 'for every input the law returns true; each argument reads behind the call as it read before'; 0 by the template 'total and deterministic' (their statements: YtdabahipeepheaaTotals.lean).
  GIVEN WITH THE SEED: the statements are not yours to turn. If you find one false, say at which input.
  Laid BY PROGRAM, IN A SANDBOX (cutbox-rows.mjs): the forced cells as the released guide's own fill.sh prints them over the translation 01dd8b842d8d25ef… (all of the seat's roots in one cut). By AI agents, Wed Nov 11 2026. No macro, syntax, notation, axiom, sorry.
-/
import Derived.Test.YtdabahipeepheaaChecked
import GoSem.Claim
import GoSem.ClaimJoined
import GoSem.ClaimMapViews
import Derived.JoinedTies
import Derived.KernelRfl
namespace Go.Proofs.Ytdabahipeepheaa
/- THE CELL 'sum', in the pinned program and in every row, IS THE sha256 OF THE DUMP (.gsa) THAT YtdabahipeepheaaProg.lean LOADS. Nothing in Lean hashes anything: it is a label: what it is worth is what the hold of that sum in a sandbox is worth. -/
noncomputable def Try.pinned : Pinned := { name := "ytdabahipeepheaa", sum := "01dd8b842d8d25ef38d4564f4fc12de9b024d234bfaadde2ca1c08cef815a6ff", checked := Try.checked }
namespace Rows
def none {H : Type} : Left H := { results := [], args := [] }

/-- 'selvagelaw07.MyersCounts': WHATEVER THE INPUT: true; the input reads as it did. -/
def myersCountsSpec : ChangeSpec := { name := "myersCounts", fn := fun _ => fun
  | [d1, d2] => { results := [.lit (.bool true)], args := [d1, d2] }
  | _ => none }
def myersCountsRow : OpenClaim := { program := "ytdabahipeepheaa", sum := "01dd8b842d8d25ef38d4564f4fc12de9b024d234bfaadde2ca1c08cef815a6ff", func := "selvage/selvagelaw07.MyersCounts", spec := "myersCounts", apart := false }
def MyersCountsSaid : Prop := myersCountsRow.holds Try.pinned (OpenSpec.ofChange myersCountsSpec)

/-- ITS FALSE NEIGHBOUR: 'it returns false'. Refute it at one input. -/
def myersCountsWrong : ChangeSpec := { name := "myersCounts", fn := fun _ => fun
  | [d1, d2] => { results := [.lit (.bool false)], args := [d1, d2] }
  | _ => none }
def MyersCountsWrongFalsely : Prop := myersCountsRow.holds Try.pinned (OpenSpec.ofChange myersCountsWrong)

/-- 'selvagelaw07.MyersMeasures': WHATEVER THE INPUT: true; the input reads as it did. -/
def myersMeasuresSpec : ChangeSpec := { name := "myersMeasures", fn := fun _ => fun
  | [d1, d2, d3] => { results := [.lit (.bool true)], args := [d1, d2, d3] }
  | _ => none }
def myersMeasuresRow : OpenClaim := { program := "ytdabahipeepheaa", sum := "01dd8b842d8d25ef38d4564f4fc12de9b024d234bfaadde2ca1c08cef815a6ff", func := "selvage/selvagelaw07.MyersMeasures", spec := "myersMeasures", apart := false }
def MyersMeasuresSaid : Prop := myersMeasuresRow.holds Try.pinned (OpenSpec.ofChange myersMeasuresSpec)

/-- ITS FALSE NEIGHBOUR: 'it returns false'. Refute it at one input. -/
def myersMeasuresWrong : ChangeSpec := { name := "myersMeasures", fn := fun _ => fun
  | [d1, d2, d3] => { results := [.lit (.bool false)], args := [d1, d2, d3] }
  | _ => none }
def MyersMeasuresWrongFalsely : Prop := myersMeasuresRow.holds Try.pinned (OpenSpec.ofChange myersMeasuresWrong)

/-- 'selvagelaw07.MyersOnce': WHATEVER THE INPUT: true; the input reads as it did. -/
def myersOnceSpec : ChangeSpec := { name := "myersOnce", fn := fun _ => fun
  | [d1, d2] => { results := [.lit (.bool true)], args := [d1, d2] }
  | _ => none }
def myersOnceRow : OpenClaim := { program := "ytdabahipeepheaa", sum := "01dd8b842d8d25ef38d4564f4fc12de9b024d234bfaadde2ca1c08cef815a6ff", func := "selvage/selvagelaw07.MyersOnce", spec := "myersOnce", apart := false }
def MyersOnceSaid : Prop := myersOnceRow.holds Try.pinned (OpenSpec.ofChange myersOnceSpec)

/-- ITS FALSE NEIGHBOUR: 'it returns false'. Refute it at one input. -/
def myersOnceWrong : ChangeSpec := { name := "myersOnce", fn := fun _ => fun
  | [d1, d2] => { results := [.lit (.bool false)], args := [d1, d2] }
  | _ => none }
def MyersOnceWrongFalsely : Prop := myersOnceRow.holds Try.pinned (OpenSpec.ofChange myersOnceWrong)

/-- 'selvagelaw07.MyersLong': WHATEVER THE INPUT: true; the input reads as it did. -/
def myersLongSpec : ChangeSpec := { name := "myersLong", fn := fun _ => fun
  | [d1, d2] => { results := [.lit (.bool true)], args := [d1, d2] }
  | _ => none }
def myersLongRow : OpenClaim := { program := "ytdabahipeepheaa", sum := "01dd8b842d8d25ef38d4564f4fc12de9b024d234bfaadde2ca1c08cef815a6ff", func := "selvage/selvagelaw07.MyersLong", spec := "myersLong", apart := false }
def MyersLongSaid : Prop := myersLongRow.holds Try.pinned (OpenSpec.ofChange myersLongSpec)

/-- ITS FALSE NEIGHBOUR: 'it returns false'. Refute it at one input. -/
def myersLongWrong : ChangeSpec := { name := "myersLong", fn := fun _ => fun
  | [d1, d2] => { results := [.lit (.bool false)], args := [d1, d2] }
  | _ => none }
def MyersLongWrongFalsely : Prop := myersLongRow.holds Try.pinned (OpenSpec.ofChange myersLongWrong)

/- THE SECOND FORM. 'bulk': how many values and letters a reading holds, each counted each time it is reached (what is shared counts as often as it is met; a slice's spare places count too). A statement '..UptoSaid' is the law's where the arguments, and the package variables that the reading takes, are together of bulk at most 1048576: NARROWER than '..Said'. Prove '..Said' where nothing that the law and all that it calls make is longer than what came in: it says more and counts as full. Else prove '..UptoSaid'. A law counts once. -/
mutual
def uptoBulk {H : Type} : DataW H → Nat
  | .lit (.string bytes) => bytes.length + 1
  | .lit _ => 1
  | .nil => 1
  | .ptr d => uptoBulk d + 1
  | .slice elems spare => uptoBulkAll elems + uptoBulkAll spare + 1
  | .agg parts => uptoBulkAll parts + 1
  | .iface _ d => uptoBulk d + 1
  | .map entries => uptoBulkEntries entries + 1
  | .held _ => 1
def uptoBulkAll {H : Type} : List (DataW H) → Nat
  | [] => 0
  | d :: r => uptoBulk d + uptoBulkAll r
def uptoBulkEntries {H : Type} : List (Lit × DataW H) → Nat
  | [] => 0
  | x :: r => uptoBulkEntry x + uptoBulkEntries r
def uptoBulkEntry {H : Type} : Lit × DataW H → Nat
  | (.string bytes, d) => bytes.length + uptoBulk d + 1
  | (_, d) => uptoBulk d + 1
 end
def uptoSmall : (H : Type) → List (DataW H) → Bool := fun _ ds => decide (uptoBulkAll ds ≤ 1048576)
def OpenSpec.upto (s : _root_.Go.ChangeSpec) : _root_.Go.OpenSpec := { _root_.Go.OpenSpec.ofChange s with cond := some uptoSmall }

/-- 'selvagelaw07.MyersCounts', WHERE WHAT IT READS IS OF BULK AT MOST 1048576: true; the input reads as it did. -/
def myersCountsUptoRow : OpenClaim := { program := "ytdabahipeepheaa", sum := "01dd8b842d8d25ef38d4564f4fc12de9b024d234bfaadde2ca1c08cef815a6ff", func := "selvage/selvagelaw07.MyersCounts", spec := "myersCounts", apart := false, narrowed := true }
def MyersCountsUptoSaid : Prop := myersCountsUptoRow.holds Try.pinned (OpenSpec.upto myersCountsSpec)

/-- 'selvagelaw07.MyersMeasures', WHERE WHAT IT READS IS OF BULK AT MOST 1048576: true; the input reads as it did. -/
def myersMeasuresUptoRow : OpenClaim := { program := "ytdabahipeepheaa", sum := "01dd8b842d8d25ef38d4564f4fc12de9b024d234bfaadde2ca1c08cef815a6ff", func := "selvage/selvagelaw07.MyersMeasures", spec := "myersMeasures", apart := false, narrowed := true }
def MyersMeasuresUptoSaid : Prop := myersMeasuresUptoRow.holds Try.pinned (OpenSpec.upto myersMeasuresSpec)

/-- 'selvagelaw07.MyersOnce', WHERE WHAT IT READS IS OF BULK AT MOST 1048576: true; the input reads as it did. -/
def myersOnceUptoRow : OpenClaim := { program := "ytdabahipeepheaa", sum := "01dd8b842d8d25ef38d4564f4fc12de9b024d234bfaadde2ca1c08cef815a6ff", func := "selvage/selvagelaw07.MyersOnce", spec := "myersOnce", apart := false, narrowed := true }
def MyersOnceUptoSaid : Prop := myersOnceUptoRow.holds Try.pinned (OpenSpec.upto myersOnceSpec)

/-- 'selvagelaw07.MyersLong', WHERE WHAT IT READS IS OF BULK AT MOST 1048576: true; the input reads as it did. -/
def myersLongUptoRow : OpenClaim := { program := "ytdabahipeepheaa", sum := "01dd8b842d8d25ef38d4564f4fc12de9b024d234bfaadde2ca1c08cef815a6ff", func := "selvage/selvagelaw07.MyersLong", spec := "myersLong", apart := false, narrowed := true }
def MyersLongUptoSaid : Prop := myersLongUptoRow.holds Try.pinned (OpenSpec.upto myersLongSpec)

end Rows
end Go.Proofs.Ytdabahipeepheaa
