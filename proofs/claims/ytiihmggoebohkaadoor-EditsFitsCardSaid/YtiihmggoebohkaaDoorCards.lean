/-
  DERIVED. GIVEN WITH THE SEED: THE CARDS: each row of YtiihmggoebohkaaDoorRows.lean that lists a variable, with what it lists TIED to the program's text (the seventh form; the later family's looks); each row that meets fmt, with fmt's text TOLD by the authors' own Lean function (tested against real Go, not proved from fmt's source: count such statements apart). THE CARD IS WHAT COUNTS. Prove the row's statement (the work); the ties are given (YtiihmggoebohkaaDoorTie.lean); close each card by the builder's one call (the guide's Derived/Test/ToyasCard.lean, 'card_holds'). Laid BY PROGRAM, IN A SANDBOX (cutbox-door.mjs). By AI agents, Wed Nov 11 2026. No macro, syntax, notation, axiom, sorry.
-/
import Derived.Test.YtiihmggoebohkaaDoorRows
import GoSem.ClaimSeven
namespace Go.Proofs.YtiihmggoebohkaaDoor
namespace Rows

/-- THE TIED CARD OF 'selvagelaw06.EditsValid'. -/
def editsValidCard : Claim7 := { stood := { row := editsValidRow, standIns := [], harness := (true, "ac7daab0e9a0d5bfd7152ab282570ee9e461f96917344614d5390b95c73fbf4c"), looks := true }, kinds := [], alts := [], laidByText := true, laidKinds := [.handle], laidTests := true, laidLooks := .later }
def EditsValidCardSaid : Prop := Claim7.holds Tryd.pinned (.plain (OpenSpec.ofChange editsValidSpec)) editsValidCard

/-- THE TIED CARD OF 'selvagelaw06.EditsOf'. -/
def editsOfCard : Claim7 := { stood := { row := editsOfRow, standIns := [], harness := (true, "ac7daab0e9a0d5bfd7152ab282570ee9e461f96917344614d5390b95c73fbf4c"), looks := true }, kinds := [], alts := [], laidByText := true, laidKinds := [.handle], laidTests := true, laidLooks := .later }
def EditsOfCardSaid : Prop := Claim7.holds Tryd.pinned (.plain (OpenSpec.ofChange editsOfSpec)) editsOfCard

/-- THE TIED CARD OF 'selvagelaw06.EditsNormal'. -/
def editsNormalCard : Claim7 := { stood := { row := editsNormalRow, standIns := [], harness := (true, "ac7daab0e9a0d5bfd7152ab282570ee9e461f96917344614d5390b95c73fbf4c"), looks := true }, kinds := [], alts := [], laidByText := true, laidKinds := [.handle], laidTests := true, laidLooks := .later }
def EditsNormalCardSaid : Prop := Claim7.holds Tryd.pinned (.plain (OpenSpec.ofChange editsNormalSpec)) editsNormalCard

/-- THE TIED CARD OF 'selvagelaw06.EditsOwn'. -/
def editsOwnCard : Claim7 := { stood := { row := editsOwnRow, standIns := [], harness := (true, "ac7daab0e9a0d5bfd7152ab282570ee9e461f96917344614d5390b95c73fbf4c"), looks := true }, kinds := [], alts := [], laidByText := true, laidKinds := [.handle], laidTests := true, laidLooks := .later }
def EditsOwnCardSaid : Prop := Claim7.holds Tryd.pinned (.plain (OpenSpec.ofChange editsOwnSpec)) editsOwnCard

/-- THE TIED CARD OF 'selvagelaw06.EditsApply'. -/
def editsApplyCard : Claim7 := { stood := { row := editsApplyRow, standIns := [], harness := (true, "ac7daab0e9a0d5bfd7152ab282570ee9e461f96917344614d5390b95c73fbf4c"), looks := true }, kinds := [], alts := [], laidByText := true, laidKinds := [.handle], laidTests := true, laidLooks := .later }
def EditsApplyCardSaid : Prop := Claim7.holds Tryd.pinned (.plain (OpenSpec.ofChange editsApplySpec)) editsApplyCard

/-- THE TIED CARD OF 'selvagelaw06.EditsBack'. -/
def editsBackCard : Claim7 := { stood := { row := editsBackRow, standIns := [], harness := (true, "ac7daab0e9a0d5bfd7152ab282570ee9e461f96917344614d5390b95c73fbf4c"), looks := true }, kinds := [], alts := [], laidByText := true, laidKinds := [.handle], laidTests := true, laidLooks := .later }
def EditsBackCardSaid : Prop := Claim7.holds Tryd.pinned (.plain (OpenSpec.ofChange editsBackSpec)) editsBackCard

/-- THE TIED CARD OF 'selvagelaw06.EditsJoin'. -/
def editsJoinCard : Claim7 := { stood := { row := editsJoinRow, standIns := [], harness := (true, "ac7daab0e9a0d5bfd7152ab282570ee9e461f96917344614d5390b95c73fbf4c"), looks := true }, kinds := [], alts := [], laidByText := true, laidKinds := [.handle], laidTests := true, laidLooks := .later }
def EditsJoinCardSaid : Prop := Claim7.holds Tryd.pinned (.plain (OpenSpec.ofChange editsJoinSpec)) editsJoinCard

/-- THE TIED CARD OF 'selvagelaw06.EditsChain'. -/
def editsChainCard : Claim7 := { stood := { row := editsChainRow, standIns := [], harness := (true, "ac7daab0e9a0d5bfd7152ab282570ee9e461f96917344614d5390b95c73fbf4c"), looks := true }, kinds := [], alts := [], laidByText := true, laidKinds := [.handle], laidTests := true, laidLooks := .later }
def EditsChainCardSaid : Prop := Claim7.holds Tryd.pinned (.plain (OpenSpec.ofChange editsChainSpec)) editsChainCard

/-- THE TIED CARD OF 'selvagelaw06.EditsFits'. -/
def editsFitsCard : Claim7 := { stood := { row := editsFitsRow, standIns := [], harness := (true, "ac7daab0e9a0d5bfd7152ab282570ee9e461f96917344614d5390b95c73fbf4c"), looks := true }, kinds := [], alts := [], laidByText := true, laidKinds := [.handle], laidTests := true, laidLooks := .later }
def EditsFitsCardSaid : Prop := Claim7.holds Tryd.pinned (.plain (OpenSpec.ofChange editsFitsSpec)) editsFitsCard

/-- THE TIED CARD OF 'selvagelaw06.EditsMoves'. -/
def editsMovesCard : Claim7 := { stood := { row := editsMovesRow, standIns := [], harness := (true, "ac7daab0e9a0d5bfd7152ab282570ee9e461f96917344614d5390b95c73fbf4c"), looks := true }, kinds := [], alts := [], laidByText := true, laidKinds := [.handle], laidTests := true, laidLooks := .later }
def EditsMovesCardSaid : Prop := Claim7.holds Tryd.pinned (.plain (OpenSpec.ofChange editsMovesSpec)) editsMovesCard

/-- THE TIED CARD OF 'selvagelaw06.EditsBlocks'. -/
def editsBlocksCard : Claim7 := { stood := { row := editsBlocksRow, standIns := [], harness := (true, "ac7daab0e9a0d5bfd7152ab282570ee9e461f96917344614d5390b95c73fbf4c"), looks := true }, kinds := [], alts := [], laidByText := true, laidKinds := [.handle], laidTests := true, laidLooks := .later }
def EditsBlocksCardSaid : Prop := Claim7.holds Tryd.pinned (.plain (OpenSpec.ofChange editsBlocksSpec)) editsBlocksCard

/-- THE SECOND FORM's CARD OF 'selvagelaw06.EditsValid'. -/
def editsValidUptoCard : Claim7 := { stood := { row := editsValidUptoRow, standIns := [], harness := (true, "ac7daab0e9a0d5bfd7152ab282570ee9e461f96917344614d5390b95c73fbf4c"), looks := true }, kinds := [], alts := [], laidByText := true, laidKinds := [.handle], laidTests := true, laidLooks := .later }
def EditsValidUptoCardSaid : Prop := Claim7.holds Tryd.pinned (.plain (OpenSpec.upto editsValidSpec)) editsValidUptoCard

/-- THE SECOND FORM's CARD OF 'selvagelaw06.EditsOf'. -/
def editsOfUptoCard : Claim7 := { stood := { row := editsOfUptoRow, standIns := [], harness := (true, "ac7daab0e9a0d5bfd7152ab282570ee9e461f96917344614d5390b95c73fbf4c"), looks := true }, kinds := [], alts := [], laidByText := true, laidKinds := [.handle], laidTests := true, laidLooks := .later }
def EditsOfUptoCardSaid : Prop := Claim7.holds Tryd.pinned (.plain (OpenSpec.upto editsOfSpec)) editsOfUptoCard

/-- THE SECOND FORM's CARD OF 'selvagelaw06.EditsNormal'. -/
def editsNormalUptoCard : Claim7 := { stood := { row := editsNormalUptoRow, standIns := [], harness := (true, "ac7daab0e9a0d5bfd7152ab282570ee9e461f96917344614d5390b95c73fbf4c"), looks := true }, kinds := [], alts := [], laidByText := true, laidKinds := [.handle], laidTests := true, laidLooks := .later }
def EditsNormalUptoCardSaid : Prop := Claim7.holds Tryd.pinned (.plain (OpenSpec.upto editsNormalSpec)) editsNormalUptoCard

/-- THE SECOND FORM's CARD OF 'selvagelaw06.EditsOwn'. -/
def editsOwnUptoCard : Claim7 := { stood := { row := editsOwnUptoRow, standIns := [], harness := (true, "ac7daab0e9a0d5bfd7152ab282570ee9e461f96917344614d5390b95c73fbf4c"), looks := true }, kinds := [], alts := [], laidByText := true, laidKinds := [.handle], laidTests := true, laidLooks := .later }
def EditsOwnUptoCardSaid : Prop := Claim7.holds Tryd.pinned (.plain (OpenSpec.upto editsOwnSpec)) editsOwnUptoCard

/-- THE SECOND FORM's CARD OF 'selvagelaw06.EditsApply'. -/
def editsApplyUptoCard : Claim7 := { stood := { row := editsApplyUptoRow, standIns := [], harness := (true, "ac7daab0e9a0d5bfd7152ab282570ee9e461f96917344614d5390b95c73fbf4c"), looks := true }, kinds := [], alts := [], laidByText := true, laidKinds := [.handle], laidTests := true, laidLooks := .later }
def EditsApplyUptoCardSaid : Prop := Claim7.holds Tryd.pinned (.plain (OpenSpec.upto editsApplySpec)) editsApplyUptoCard

/-- THE SECOND FORM's CARD OF 'selvagelaw06.EditsBack'. -/
def editsBackUptoCard : Claim7 := { stood := { row := editsBackUptoRow, standIns := [], harness := (true, "ac7daab0e9a0d5bfd7152ab282570ee9e461f96917344614d5390b95c73fbf4c"), looks := true }, kinds := [], alts := [], laidByText := true, laidKinds := [.handle], laidTests := true, laidLooks := .later }
def EditsBackUptoCardSaid : Prop := Claim7.holds Tryd.pinned (.plain (OpenSpec.upto editsBackSpec)) editsBackUptoCard

/-- THE SECOND FORM's CARD OF 'selvagelaw06.EditsJoin'. -/
def editsJoinUptoCard : Claim7 := { stood := { row := editsJoinUptoRow, standIns := [], harness := (true, "ac7daab0e9a0d5bfd7152ab282570ee9e461f96917344614d5390b95c73fbf4c"), looks := true }, kinds := [], alts := [], laidByText := true, laidKinds := [.handle], laidTests := true, laidLooks := .later }
def EditsJoinUptoCardSaid : Prop := Claim7.holds Tryd.pinned (.plain (OpenSpec.upto editsJoinSpec)) editsJoinUptoCard

/-- THE SECOND FORM's CARD OF 'selvagelaw06.EditsChain'. -/
def editsChainUptoCard : Claim7 := { stood := { row := editsChainUptoRow, standIns := [], harness := (true, "ac7daab0e9a0d5bfd7152ab282570ee9e461f96917344614d5390b95c73fbf4c"), looks := true }, kinds := [], alts := [], laidByText := true, laidKinds := [.handle], laidTests := true, laidLooks := .later }
def EditsChainUptoCardSaid : Prop := Claim7.holds Tryd.pinned (.plain (OpenSpec.upto editsChainSpec)) editsChainUptoCard

/-- THE SECOND FORM's CARD OF 'selvagelaw06.EditsFits'. -/
def editsFitsUptoCard : Claim7 := { stood := { row := editsFitsUptoRow, standIns := [], harness := (true, "ac7daab0e9a0d5bfd7152ab282570ee9e461f96917344614d5390b95c73fbf4c"), looks := true }, kinds := [], alts := [], laidByText := true, laidKinds := [.handle], laidTests := true, laidLooks := .later }
def EditsFitsUptoCardSaid : Prop := Claim7.holds Tryd.pinned (.plain (OpenSpec.upto editsFitsSpec)) editsFitsUptoCard

/-- THE SECOND FORM's CARD OF 'selvagelaw06.EditsMoves'. -/
def editsMovesUptoCard : Claim7 := { stood := { row := editsMovesUptoRow, standIns := [], harness := (true, "ac7daab0e9a0d5bfd7152ab282570ee9e461f96917344614d5390b95c73fbf4c"), looks := true }, kinds := [], alts := [], laidByText := true, laidKinds := [.handle], laidTests := true, laidLooks := .later }
def EditsMovesUptoCardSaid : Prop := Claim7.holds Tryd.pinned (.plain (OpenSpec.upto editsMovesSpec)) editsMovesUptoCard

/-- THE SECOND FORM's CARD OF 'selvagelaw06.EditsBlocks'. -/
def editsBlocksUptoCard : Claim7 := { stood := { row := editsBlocksUptoRow, standIns := [], harness := (true, "ac7daab0e9a0d5bfd7152ab282570ee9e461f96917344614d5390b95c73fbf4c"), looks := true }, kinds := [], alts := [], laidByText := true, laidKinds := [.handle], laidTests := true, laidLooks := .later }
def EditsBlocksUptoCardSaid : Prop := Claim7.holds Tryd.pinned (.plain (OpenSpec.upto editsBlocksSpec)) editsBlocksUptoCard
end Rows
end Go.Proofs.YtiihmggoebohkaaDoor
