/-
  NARROWER THAN 'FOR EVERY INPUT', by the rows' own cells (each row's printed sentence says how): EditsValid: laid · EditsOf: laid · EditsNormal: laid · EditsOwn: laid · EditsApply: laid · EditsBack: laid · EditsJoin: laid · EditsChain: laid · EditsFits: laid · EditsMoves: laid · EditsBlocks: laid.
  DERIVED. THE GIVEN ROWS OF THIS SEAT. 11 by the template 'for every input the law returns true; each argument reads behind the call as it read before'; 0 by the template 'total and deterministic' (their statements: YtiihmggoebohkaaDoorTotals.lean).
  GIVEN WITH THE SEED: the statements are not yours to turn. If you find one false, say at which input.
  Laid BY PROGRAM, IN A SANDBOX (cutbox-rows.mjs): the forced cells as the released guide's own fill.sh prints them over the translation 4331b2379eadb332… (all of the seat's roots in one cut). By AI agents, Wed Nov 11 2026. No macro, syntax, notation, axiom, sorry.
-/
import Derived.Test.YtiihmggoebohkaaDoorChecked
import GoSem.Claim
import GoSem.ClaimJoined
import GoSem.ClaimMapViews
import Derived.JoinedTies
import Derived.KernelRfl
namespace Go.Proofs.YtiihmggoebohkaaDoor
/- THE CELL 'sum', in the pinned program and in every row, IS THE sha256 OF THE DUMP (.gsa) THAT YtiihmggoebohkaaDoorProg.lean LOADS. Nothing in Lean hashes anything: it is a label: what it is worth is what the hold of that sum in a sandbox is worth. -/
noncomputable def Tryd.pinned : Pinned := { name := "ytiihmggoebohkaadoor", sum := "4331b2379eadb332c2907c7aa4553f6099fb4fa6bb317d6d2e2dd802540c9587", checked := Tryd.checked }
namespace Rows
def none {H : Type} : Left H := { results := [], args := [] }

/- WHAT THE LISTED PACKAGE-LEVEL VARIABLES READ AS WHEN THE CALL BEGINS. Each datum BY PROGRAM (the guide's laid-datum.mjs) off the statement by which the dump's own 'gosem.cut.vars' lays the variable. In a bare row this is a premise. The card (YtiihmggoebohkaaDoorCards.lean) ties it to the program's text. -/
def laid_errors_errorType {H : Type} : DataW H := .iface "internal/reflectlite.rtype" (.agg [.ptr (.lit (.string [101, 114, 114, 111, 114]))])

/-- 'selvagelaw06.EditsValid': WHATEVER THE INPUT: true; the input reads as it did. -/
def editsValidSpec : ChangeSpec := { name := "editsValid", fn := fun _ => fun
  | [d1, d2, d3] => { results := [.lit (.bool true)], args := [d1, d2, d3] }
  | _ => none }
def editsValidRow : OpenClaim := { program := "ytiihmggoebohkaadoor", sum := "4331b2379eadb332c2907c7aa4553f6099fb4fa6bb317d6d2e2dd802540c9587", func := "selvage/selvagelaw06.EditsValid", spec := "editsValid", inPlace := ["internal/reflectlite.ValueOf", "(internal/reflectlite.Value).Type", "(internal/reflectlite.Value).IsNil", "internal/reflectlite.TypeOf", "(internal/reflectlite.Value).Elem", "(internal/reflectlite.Value).Set"], unfollowed := true, recurses := true, named := ["errors.errorType"], apart := false, laid := [("errors.errorType", laid_errors_errorType)] }
def EditsValidSaid : Prop := editsValidRow.holds Tryd.pinned (OpenSpec.ofChange editsValidSpec)

/-- ITS FALSE NEIGHBOUR: 'it returns false'. Refute it at one input. -/
def editsValidWrong : ChangeSpec := { name := "editsValid", fn := fun _ => fun
  | [d1, d2, d3] => { results := [.lit (.bool false)], args := [d1, d2, d3] }
  | _ => none }
def EditsValidWrongFalsely : Prop := editsValidRow.holds Tryd.pinned (OpenSpec.ofChange editsValidWrong)

/-- 'selvagelaw06.EditsOf': WHATEVER THE INPUT: true; the input reads as it did. -/
def editsOfSpec : ChangeSpec := { name := "editsOf", fn := fun _ => fun
  | [d1, d2, d3] => { results := [.lit (.bool true)], args := [d1, d2, d3] }
  | _ => none }
def editsOfRow : OpenClaim := { program := "ytiihmggoebohkaadoor", sum := "4331b2379eadb332c2907c7aa4553f6099fb4fa6bb317d6d2e2dd802540c9587", func := "selvage/selvagelaw06.EditsOf", spec := "editsOf", inPlace := ["internal/reflectlite.ValueOf", "(internal/reflectlite.Value).Type", "(internal/reflectlite.Value).IsNil", "internal/reflectlite.TypeOf", "(internal/reflectlite.Value).Elem", "(internal/reflectlite.Value).Set"], unfollowed := true, recurses := true, named := ["errors.errorType"], apart := false, laid := [("errors.errorType", laid_errors_errorType)] }
def EditsOfSaid : Prop := editsOfRow.holds Tryd.pinned (OpenSpec.ofChange editsOfSpec)

/-- ITS FALSE NEIGHBOUR: 'it returns false'. Refute it at one input. -/
def editsOfWrong : ChangeSpec := { name := "editsOf", fn := fun _ => fun
  | [d1, d2, d3] => { results := [.lit (.bool false)], args := [d1, d2, d3] }
  | _ => none }
def EditsOfWrongFalsely : Prop := editsOfRow.holds Tryd.pinned (OpenSpec.ofChange editsOfWrong)

/-- 'selvagelaw06.EditsNormal': WHATEVER THE INPUT: true; the input reads as it did. -/
def editsNormalSpec : ChangeSpec := { name := "editsNormal", fn := fun _ => fun
  | [d1, d2, d3] => { results := [.lit (.bool true)], args := [d1, d2, d3] }
  | _ => none }
def editsNormalRow : OpenClaim := { program := "ytiihmggoebohkaadoor", sum := "4331b2379eadb332c2907c7aa4553f6099fb4fa6bb317d6d2e2dd802540c9587", func := "selvage/selvagelaw06.EditsNormal", spec := "editsNormal", inPlace := ["internal/reflectlite.ValueOf", "(internal/reflectlite.Value).Type", "(internal/reflectlite.Value).IsNil", "internal/reflectlite.TypeOf", "(internal/reflectlite.Value).Elem", "(internal/reflectlite.Value).Set"], unfollowed := true, recurses := true, named := ["errors.errorType"], apart := false, laid := [("errors.errorType", laid_errors_errorType)] }
def EditsNormalSaid : Prop := editsNormalRow.holds Tryd.pinned (OpenSpec.ofChange editsNormalSpec)

/-- ITS FALSE NEIGHBOUR: 'it returns false'. Refute it at one input. -/
def editsNormalWrong : ChangeSpec := { name := "editsNormal", fn := fun _ => fun
  | [d1, d2, d3] => { results := [.lit (.bool false)], args := [d1, d2, d3] }
  | _ => none }
def EditsNormalWrongFalsely : Prop := editsNormalRow.holds Tryd.pinned (OpenSpec.ofChange editsNormalWrong)

/-- 'selvagelaw06.EditsOwn': WHATEVER THE INPUT: true; the input reads as it did. -/
def editsOwnSpec : ChangeSpec := { name := "editsOwn", fn := fun _ => fun
  | [d1, d2, d3] => { results := [.lit (.bool true)], args := [d1, d2, d3] }
  | _ => none }
def editsOwnRow : OpenClaim := { program := "ytiihmggoebohkaadoor", sum := "4331b2379eadb332c2907c7aa4553f6099fb4fa6bb317d6d2e2dd802540c9587", func := "selvage/selvagelaw06.EditsOwn", spec := "editsOwn", inPlace := ["internal/reflectlite.ValueOf", "(internal/reflectlite.Value).Type", "(internal/reflectlite.Value).IsNil", "internal/reflectlite.TypeOf", "(internal/reflectlite.Value).Elem", "(internal/reflectlite.Value).Set"], unfollowed := true, recurses := true, named := ["errors.errorType"], apart := false, laid := [("errors.errorType", laid_errors_errorType)] }
def EditsOwnSaid : Prop := editsOwnRow.holds Tryd.pinned (OpenSpec.ofChange editsOwnSpec)

/-- ITS FALSE NEIGHBOUR: 'it returns false'. Refute it at one input. -/
def editsOwnWrong : ChangeSpec := { name := "editsOwn", fn := fun _ => fun
  | [d1, d2, d3] => { results := [.lit (.bool false)], args := [d1, d2, d3] }
  | _ => none }
def EditsOwnWrongFalsely : Prop := editsOwnRow.holds Tryd.pinned (OpenSpec.ofChange editsOwnWrong)

/-- 'selvagelaw06.EditsApply': WHATEVER THE INPUT: true; the input reads as it did. -/
def editsApplySpec : ChangeSpec := { name := "editsApply", fn := fun _ => fun
  | [d1, d2, d3] => { results := [.lit (.bool true)], args := [d1, d2, d3] }
  | _ => none }
def editsApplyRow : OpenClaim := { program := "ytiihmggoebohkaadoor", sum := "4331b2379eadb332c2907c7aa4553f6099fb4fa6bb317d6d2e2dd802540c9587", func := "selvage/selvagelaw06.EditsApply", spec := "editsApply", inPlace := ["internal/reflectlite.ValueOf", "(internal/reflectlite.Value).Type", "(internal/reflectlite.Value).IsNil", "internal/reflectlite.TypeOf", "(internal/reflectlite.Value).Elem", "(internal/reflectlite.Value).Set"], unfollowed := true, recurses := true, named := ["errors.errorType"], apart := false, laid := [("errors.errorType", laid_errors_errorType)] }
def EditsApplySaid : Prop := editsApplyRow.holds Tryd.pinned (OpenSpec.ofChange editsApplySpec)

/-- ITS FALSE NEIGHBOUR: 'it returns false'. Refute it at one input. -/
def editsApplyWrong : ChangeSpec := { name := "editsApply", fn := fun _ => fun
  | [d1, d2, d3] => { results := [.lit (.bool false)], args := [d1, d2, d3] }
  | _ => none }
def EditsApplyWrongFalsely : Prop := editsApplyRow.holds Tryd.pinned (OpenSpec.ofChange editsApplyWrong)

/-- 'selvagelaw06.EditsBack': WHATEVER THE INPUT: true; the input reads as it did. -/
def editsBackSpec : ChangeSpec := { name := "editsBack", fn := fun _ => fun
  | [d1, d2, d3] => { results := [.lit (.bool true)], args := [d1, d2, d3] }
  | _ => none }
def editsBackRow : OpenClaim := { program := "ytiihmggoebohkaadoor", sum := "4331b2379eadb332c2907c7aa4553f6099fb4fa6bb317d6d2e2dd802540c9587", func := "selvage/selvagelaw06.EditsBack", spec := "editsBack", inPlace := ["internal/reflectlite.ValueOf", "(internal/reflectlite.Value).Type", "(internal/reflectlite.Value).IsNil", "internal/reflectlite.TypeOf", "(internal/reflectlite.Value).Elem", "(internal/reflectlite.Value).Set"], unfollowed := true, recurses := true, named := ["errors.errorType"], apart := false, laid := [("errors.errorType", laid_errors_errorType)] }
def EditsBackSaid : Prop := editsBackRow.holds Tryd.pinned (OpenSpec.ofChange editsBackSpec)

/-- ITS FALSE NEIGHBOUR: 'it returns false'. Refute it at one input. -/
def editsBackWrong : ChangeSpec := { name := "editsBack", fn := fun _ => fun
  | [d1, d2, d3] => { results := [.lit (.bool false)], args := [d1, d2, d3] }
  | _ => none }
def EditsBackWrongFalsely : Prop := editsBackRow.holds Tryd.pinned (OpenSpec.ofChange editsBackWrong)

/-- 'selvagelaw06.EditsJoin': WHATEVER THE INPUT: true; the input reads as it did. -/
def editsJoinSpec : ChangeSpec := { name := "editsJoin", fn := fun _ => fun
  | [d] => { results := [.lit (.bool true)], args := [d] }
  | _ => none }
def editsJoinRow : OpenClaim := { program := "ytiihmggoebohkaadoor", sum := "4331b2379eadb332c2907c7aa4553f6099fb4fa6bb317d6d2e2dd802540c9587", func := "selvage/selvagelaw06.EditsJoin", spec := "editsJoin", inPlace := ["internal/reflectlite.ValueOf", "(internal/reflectlite.Value).Type", "(internal/reflectlite.Value).IsNil", "internal/reflectlite.TypeOf", "(internal/reflectlite.Value).Elem", "(internal/reflectlite.Value).Set"], unfollowed := true, recurses := true, named := ["errors.errorType"], apart := false, laid := [("errors.errorType", laid_errors_errorType)] }
def EditsJoinSaid : Prop := editsJoinRow.holds Tryd.pinned (OpenSpec.ofChange editsJoinSpec)

/-- ITS FALSE NEIGHBOUR: 'it returns false'. Refute it at one input. -/
def editsJoinWrong : ChangeSpec := { name := "editsJoin", fn := fun _ => fun
  | [d] => { results := [.lit (.bool false)], args := [d] }
  | _ => none }
def EditsJoinWrongFalsely : Prop := editsJoinRow.holds Tryd.pinned (OpenSpec.ofChange editsJoinWrong)

/-- 'selvagelaw06.EditsChain': WHATEVER THE INPUT: true; the input reads as it did. -/
def editsChainSpec : ChangeSpec := { name := "editsChain", fn := fun _ => fun
  | [d] => { results := [.lit (.bool true)], args := [d] }
  | _ => none }
def editsChainRow : OpenClaim := { program := "ytiihmggoebohkaadoor", sum := "4331b2379eadb332c2907c7aa4553f6099fb4fa6bb317d6d2e2dd802540c9587", func := "selvage/selvagelaw06.EditsChain", spec := "editsChain", inPlace := ["internal/reflectlite.ValueOf", "(internal/reflectlite.Value).Type", "(internal/reflectlite.Value).IsNil", "internal/reflectlite.TypeOf", "(internal/reflectlite.Value).Elem", "(internal/reflectlite.Value).Set"], unfollowed := true, recurses := true, named := ["errors.errorType"], apart := false, laid := [("errors.errorType", laid_errors_errorType)] }
def EditsChainSaid : Prop := editsChainRow.holds Tryd.pinned (OpenSpec.ofChange editsChainSpec)

/-- ITS FALSE NEIGHBOUR: 'it returns false'. Refute it at one input. -/
def editsChainWrong : ChangeSpec := { name := "editsChain", fn := fun _ => fun
  | [d] => { results := [.lit (.bool false)], args := [d] }
  | _ => none }
def EditsChainWrongFalsely : Prop := editsChainRow.holds Tryd.pinned (OpenSpec.ofChange editsChainWrong)

/-- 'selvagelaw06.EditsFits': WHATEVER THE INPUT: true; the input reads as it did. -/
def editsFitsSpec : ChangeSpec := { name := "editsFits", fn := fun _ => fun
  | [d] => { results := [.lit (.bool true)], args := [d] }
  | _ => none }
def editsFitsRow : OpenClaim := { program := "ytiihmggoebohkaadoor", sum := "4331b2379eadb332c2907c7aa4553f6099fb4fa6bb317d6d2e2dd802540c9587", func := "selvage/selvagelaw06.EditsFits", spec := "editsFits", inPlace := ["internal/reflectlite.ValueOf", "(internal/reflectlite.Value).Type", "(internal/reflectlite.Value).IsNil", "internal/reflectlite.TypeOf", "(internal/reflectlite.Value).Elem", "(internal/reflectlite.Value).Set"], unfollowed := true, recurses := true, named := ["errors.errorType"], apart := false, laid := [("errors.errorType", laid_errors_errorType)] }
def EditsFitsSaid : Prop := editsFitsRow.holds Tryd.pinned (OpenSpec.ofChange editsFitsSpec)

/-- ITS FALSE NEIGHBOUR: 'it returns false'. Refute it at one input. -/
def editsFitsWrong : ChangeSpec := { name := "editsFits", fn := fun _ => fun
  | [d] => { results := [.lit (.bool false)], args := [d] }
  | _ => none }
def EditsFitsWrongFalsely : Prop := editsFitsRow.holds Tryd.pinned (OpenSpec.ofChange editsFitsWrong)

/-- 'selvagelaw06.EditsMoves': WHATEVER THE INPUT: true; the input reads as it did. -/
def editsMovesSpec : ChangeSpec := { name := "editsMoves", fn := fun _ => fun
  | [d] => { results := [.lit (.bool true)], args := [d] }
  | _ => none }
def editsMovesRow : OpenClaim := { program := "ytiihmggoebohkaadoor", sum := "4331b2379eadb332c2907c7aa4553f6099fb4fa6bb317d6d2e2dd802540c9587", func := "selvage/selvagelaw06.EditsMoves", spec := "editsMoves", inPlace := ["internal/reflectlite.ValueOf", "(internal/reflectlite.Value).Type", "(internal/reflectlite.Value).IsNil", "internal/reflectlite.TypeOf", "(internal/reflectlite.Value).Elem", "(internal/reflectlite.Value).Set"], unfollowed := true, recurses := true, named := ["errors.errorType"], apart := false, laid := [("errors.errorType", laid_errors_errorType)] }
def EditsMovesSaid : Prop := editsMovesRow.holds Tryd.pinned (OpenSpec.ofChange editsMovesSpec)

/-- ITS FALSE NEIGHBOUR: 'it returns false'. Refute it at one input. -/
def editsMovesWrong : ChangeSpec := { name := "editsMoves", fn := fun _ => fun
  | [d] => { results := [.lit (.bool false)], args := [d] }
  | _ => none }
def EditsMovesWrongFalsely : Prop := editsMovesRow.holds Tryd.pinned (OpenSpec.ofChange editsMovesWrong)

/-- 'selvagelaw06.EditsBlocks': WHATEVER THE INPUT: true; the input reads as it did. -/
def editsBlocksSpec : ChangeSpec := { name := "editsBlocks", fn := fun _ => fun
  | [d] => { results := [.lit (.bool true)], args := [d] }
  | _ => none }
def editsBlocksRow : OpenClaim := { program := "ytiihmggoebohkaadoor", sum := "4331b2379eadb332c2907c7aa4553f6099fb4fa6bb317d6d2e2dd802540c9587", func := "selvage/selvagelaw06.EditsBlocks", spec := "editsBlocks", inPlace := ["internal/reflectlite.ValueOf", "(internal/reflectlite.Value).Type", "(internal/reflectlite.Value).IsNil", "internal/reflectlite.TypeOf", "(internal/reflectlite.Value).Elem", "(internal/reflectlite.Value).Set"], unfollowed := true, recurses := true, named := ["errors.errorType"], apart := false, laid := [("errors.errorType", laid_errors_errorType)] }
def EditsBlocksSaid : Prop := editsBlocksRow.holds Tryd.pinned (OpenSpec.ofChange editsBlocksSpec)

/-- ITS FALSE NEIGHBOUR: 'it returns false'. Refute it at one input. -/
def editsBlocksWrong : ChangeSpec := { name := "editsBlocks", fn := fun _ => fun
  | [d] => { results := [.lit (.bool false)], args := [d] }
  | _ => none }
def EditsBlocksWrongFalsely : Prop := editsBlocksRow.holds Tryd.pinned (OpenSpec.ofChange editsBlocksWrong)

/- THE SECOND FORM. 'bulk': how many values and letters a reading holds, each counted each time it is reached (what is shared counts as often as it is met; a slice's spare places count too). A statement '..UptoSaid' is the law's where the arguments, and the package variables that the reading takes, are together of bulk at most 1048576: NARROWER than '..Said'. Prove '..Said' where nothing that the law and all that it calls make is longer than what came in: it says more and counts as full. Else prove '..UptoSaid'. A law counts once. -/
mutual
def uptoBulk {H : Type} : DataW H → Nat
  | .lit (.string bytes) => bytes.length + 1
  | .lit _ => 1
  | .nil => 1
  | .ptr d => uptoBulk d + 1
  | .slice elems spare => uptoBulkAll elems + uptoBulkAll spare + 1
  | .agg parts => uptoBulkAll parts + 1
  | .iface _ d => uptoBulk d + 1
  | .map entries => uptoBulkEntries entries + 1
  | .held _ => 1
def uptoBulkAll {H : Type} : List (DataW H) → Nat
  | [] => 0
  | d :: r => uptoBulk d + uptoBulkAll r
def uptoBulkEntries {H : Type} : List (Lit × DataW H) → Nat
  | [] => 0
  | x :: r => uptoBulkEntry x + uptoBulkEntries r
def uptoBulkEntry {H : Type} : Lit × DataW H → Nat
  | (.string bytes, d) => bytes.length + uptoBulk d + 1
  | (_, d) => uptoBulk d + 1
 end
def uptoSmall : (H : Type) → List (DataW H) → Bool := fun _ ds => decide (uptoBulkAll ds ≤ 1048576)
def OpenSpec.upto (s : _root_.Go.ChangeSpec) : _root_.Go.OpenSpec := { _root_.Go.OpenSpec.ofChange s with cond := some uptoSmall }

/-- 'selvagelaw06.EditsValid', WHERE WHAT IT READS IS OF BULK AT MOST 1048576: true; the input reads as it did. -/
def editsValidUptoRow : OpenClaim := { program := "ytiihmggoebohkaadoor", sum := "4331b2379eadb332c2907c7aa4553f6099fb4fa6bb317d6d2e2dd802540c9587", func := "selvage/selvagelaw06.EditsValid", spec := "editsValid", inPlace := ["internal/reflectlite.ValueOf", "(internal/reflectlite.Value).Type", "(internal/reflectlite.Value).IsNil", "internal/reflectlite.TypeOf", "(internal/reflectlite.Value).Elem", "(internal/reflectlite.Value).Set"], unfollowed := true, recurses := true, named := ["errors.errorType"], apart := false, laid := [("errors.errorType", laid_errors_errorType)], narrowed := true }
def EditsValidUptoSaid : Prop := editsValidUptoRow.holds Tryd.pinned (OpenSpec.upto editsValidSpec)

/-- 'selvagelaw06.EditsOf', WHERE WHAT IT READS IS OF BULK AT MOST 1048576: true; the input reads as it did. -/
def editsOfUptoRow : OpenClaim := { program := "ytiihmggoebohkaadoor", sum := "4331b2379eadb332c2907c7aa4553f6099fb4fa6bb317d6d2e2dd802540c9587", func := "selvage/selvagelaw06.EditsOf", spec := "editsOf", inPlace := ["internal/reflectlite.ValueOf", "(internal/reflectlite.Value).Type", "(internal/reflectlite.Value).IsNil", "internal/reflectlite.TypeOf", "(internal/reflectlite.Value).Elem", "(internal/reflectlite.Value).Set"], unfollowed := true, recurses := true, named := ["errors.errorType"], apart := false, laid := [("errors.errorType", laid_errors_errorType)], narrowed := true }
def EditsOfUptoSaid : Prop := editsOfUptoRow.holds Tryd.pinned (OpenSpec.upto editsOfSpec)

/-- 'selvagelaw06.EditsNormal', WHERE WHAT IT READS IS OF BULK AT MOST 1048576: true; the input reads as it did. -/
def editsNormalUptoRow : OpenClaim := { program := "ytiihmggoebohkaadoor", sum := "4331b2379eadb332c2907c7aa4553f6099fb4fa6bb317d6d2e2dd802540c9587", func := "selvage/selvagelaw06.EditsNormal", spec := "editsNormal", inPlace := ["internal/reflectlite.ValueOf", "(internal/reflectlite.Value).Type", "(internal/reflectlite.Value).IsNil", "internal/reflectlite.TypeOf", "(internal/reflectlite.Value).Elem", "(internal/reflectlite.Value).Set"], unfollowed := true, recurses := true, named := ["errors.errorType"], apart := false, laid := [("errors.errorType", laid_errors_errorType)], narrowed := true }
def EditsNormalUptoSaid : Prop := editsNormalUptoRow.holds Tryd.pinned (OpenSpec.upto editsNormalSpec)

/-- 'selvagelaw06.EditsOwn', WHERE WHAT IT READS IS OF BULK AT MOST 1048576: true; the input reads as it did. -/
def editsOwnUptoRow : OpenClaim := { program := "ytiihmggoebohkaadoor", sum := "4331b2379eadb332c2907c7aa4553f6099fb4fa6bb317d6d2e2dd802540c9587", func := "selvage/selvagelaw06.EditsOwn", spec := "editsOwn", inPlace := ["internal/reflectlite.ValueOf", "(internal/reflectlite.Value).Type", "(internal/reflectlite.Value).IsNil", "internal/reflectlite.TypeOf", "(internal/reflectlite.Value).Elem", "(internal/reflectlite.Value).Set"], unfollowed := true, recurses := true, named := ["errors.errorType"], apart := false, laid := [("errors.errorType", laid_errors_errorType)], narrowed := true }
def EditsOwnUptoSaid : Prop := editsOwnUptoRow.holds Tryd.pinned (OpenSpec.upto editsOwnSpec)

/-- 'selvagelaw06.EditsApply', WHERE WHAT IT READS IS OF BULK AT MOST 1048576: true; the input reads as it did. -/
def editsApplyUptoRow : OpenClaim := { program := "ytiihmggoebohkaadoor", sum := "4331b2379eadb332c2907c7aa4553f6099fb4fa6bb317d6d2e2dd802540c9587", func := "selvage/selvagelaw06.EditsApply", spec := "editsApply", inPlace := ["internal/reflectlite.ValueOf", "(internal/reflectlite.Value).Type", "(internal/reflectlite.Value).IsNil", "internal/reflectlite.TypeOf", "(internal/reflectlite.Value).Elem", "(internal/reflectlite.Value).Set"], unfollowed := true, recurses := true, named := ["errors.errorType"], apart := false, laid := [("errors.errorType", laid_errors_errorType)], narrowed := true }
def EditsApplyUptoSaid : Prop := editsApplyUptoRow.holds Tryd.pinned (OpenSpec.upto editsApplySpec)

/-- 'selvagelaw06.EditsBack', WHERE WHAT IT READS IS OF BULK AT MOST 1048576: true; the input reads as it did. -/
def editsBackUptoRow : OpenClaim := { program := "ytiihmggoebohkaadoor", sum := "4331b2379eadb332c2907c7aa4553f6099fb4fa6bb317d6d2e2dd802540c9587", func := "selvage/selvagelaw06.EditsBack", spec := "editsBack", inPlace := ["internal/reflectlite.ValueOf", "(internal/reflectlite.Value).Type", "(internal/reflectlite.Value).IsNil", "internal/reflectlite.TypeOf", "(internal/reflectlite.Value).Elem", "(internal/reflectlite.Value).Set"], unfollowed := true, recurses := true, named := ["errors.errorType"], apart := false, laid := [("errors.errorType", laid_errors_errorType)], narrowed := true }
def EditsBackUptoSaid : Prop := editsBackUptoRow.holds Tryd.pinned (OpenSpec.upto editsBackSpec)

/-- 'selvagelaw06.EditsJoin', WHERE WHAT IT READS IS OF BULK AT MOST 1048576: true; the input reads as it did. -/
def editsJoinUptoRow : OpenClaim := { program := "ytiihmggoebohkaadoor", sum := "4331b2379eadb332c2907c7aa4553f6099fb4fa6bb317d6d2e2dd802540c9587", func := "selvage/selvagelaw06.EditsJoin", spec := "editsJoin", inPlace := ["internal/reflectlite.ValueOf", "(internal/reflectlite.Value).Type", "(internal/reflectlite.Value).IsNil", "internal/reflectlite.TypeOf", "(internal/reflectlite.Value).Elem", "(internal/reflectlite.Value).Set"], unfollowed := true, recurses := true, named := ["errors.errorType"], apart := false, laid := [("errors.errorType", laid_errors_errorType)], narrowed := true }
def EditsJoinUptoSaid : Prop := editsJoinUptoRow.holds Tryd.pinned (OpenSpec.upto editsJoinSpec)

/-- 'selvagelaw06.EditsChain', WHERE WHAT IT READS IS OF BULK AT MOST 1048576: true; the input reads as it did. -/
def editsChainUptoRow : OpenClaim := { program := "ytiihmggoebohkaadoor", sum := "4331b2379eadb332c2907c7aa4553f6099fb4fa6bb317d6d2e2dd802540c9587", func := "selvage/selvagelaw06.EditsChain", spec := "editsChain", inPlace := ["internal/reflectlite.ValueOf", "(internal/reflectlite.Value).Type", "(internal/reflectlite.Value).IsNil", "internal/reflectlite.TypeOf", "(internal/reflectlite.Value).Elem", "(internal/reflectlite.Value).Set"], unfollowed := true, recurses := true, named := ["errors.errorType"], apart := false, laid := [("errors.errorType", laid_errors_errorType)], narrowed := true }
def EditsChainUptoSaid : Prop := editsChainUptoRow.holds Tryd.pinned (OpenSpec.upto editsChainSpec)

/-- 'selvagelaw06.EditsFits', WHERE WHAT IT READS IS OF BULK AT MOST 1048576: true; the input reads as it did. -/
def editsFitsUptoRow : OpenClaim := { program := "ytiihmggoebohkaadoor", sum := "4331b2379eadb332c2907c7aa4553f6099fb4fa6bb317d6d2e2dd802540c9587", func := "selvage/selvagelaw06.EditsFits", spec := "editsFits", inPlace := ["internal/reflectlite.ValueOf", "(internal/reflectlite.Value).Type", "(internal/reflectlite.Value).IsNil", "internal/reflectlite.TypeOf", "(internal/reflectlite.Value).Elem", "(internal/reflectlite.Value).Set"], unfollowed := true, recurses := true, named := ["errors.errorType"], apart := false, laid := [("errors.errorType", laid_errors_errorType)], narrowed := true }
def EditsFitsUptoSaid : Prop := editsFitsUptoRow.holds Tryd.pinned (OpenSpec.upto editsFitsSpec)

/-- 'selvagelaw06.EditsMoves', WHERE WHAT IT READS IS OF BULK AT MOST 1048576: true; the input reads as it did. -/
def editsMovesUptoRow : OpenClaim := { program := "ytiihmggoebohkaadoor", sum := "4331b2379eadb332c2907c7aa4553f6099fb4fa6bb317d6d2e2dd802540c9587", func := "selvage/selvagelaw06.EditsMoves", spec := "editsMoves", inPlace := ["internal/reflectlite.ValueOf", "(internal/reflectlite.Value).Type", "(internal/reflectlite.Value).IsNil", "internal/reflectlite.TypeOf", "(internal/reflectlite.Value).Elem", "(internal/reflectlite.Value).Set"], unfollowed := true, recurses := true, named := ["errors.errorType"], apart := false, laid := [("errors.errorType", laid_errors_errorType)], narrowed := true }
def EditsMovesUptoSaid : Prop := editsMovesUptoRow.holds Tryd.pinned (OpenSpec.upto editsMovesSpec)

/-- 'selvagelaw06.EditsBlocks', WHERE WHAT IT READS IS OF BULK AT MOST 1048576: true; the input reads as it did. -/
def editsBlocksUptoRow : OpenClaim := { program := "ytiihmggoebohkaadoor", sum := "4331b2379eadb332c2907c7aa4553f6099fb4fa6bb317d6d2e2dd802540c9587", func := "selvage/selvagelaw06.EditsBlocks", spec := "editsBlocks", inPlace := ["internal/reflectlite.ValueOf", "(internal/reflectlite.Value).Type", "(internal/reflectlite.Value).IsNil", "internal/reflectlite.TypeOf", "(internal/reflectlite.Value).Elem", "(internal/reflectlite.Value).Set"], unfollowed := true, recurses := true, named := ["errors.errorType"], apart := false, laid := [("errors.errorType", laid_errors_errorType)], narrowed := true }
def EditsBlocksUptoSaid : Prop := editsBlocksUptoRow.holds Tryd.pinned (OpenSpec.upto editsBlocksSpec)

end Rows
end Go.Proofs.YtiihmggoebohkaaDoor
