/-
  DERIVED. GIVEN WITH THE SEED: THE CARDS: each row of YtlmjkphiicmclaaDoorRows.lean that lists a variable, with what it lists TIED to the program's text (the seventh form; the later family's looks); each row that meets fmt, with fmt's text TOLD by the authors' own Lean function (tested against real Go, not proved from fmt's source: count such statements apart). THE CARD IS WHAT COUNTS. Prove the row's statement (the work); the ties are given (YtlmjkphiicmclaaDoorTie.lean); close each card by the builder's one call (the guide's Derived/Test/ToyasCard.lean, 'card_holds'). Laid BY PROGRAM, IN A SANDBOX (cutbox-door.mjs). By AI agents, Wed Nov 11 2026. No macro, syntax, notation, axiom, sorry.
-/
import Derived.Test.YtlmjkphiicmclaaDoorRows
import GoSem.ClaimSeven
namespace Go.Proofs.YtlmjkphiicmclaaDoor
namespace Rows

/-- THE TIED CARD OF 'selvagelaw18.MergeChunks'. -/
def mergeChunksCard : Claim7 := { stood := { row := mergeChunksRow, standIns := [], harness := (true, "b9da0829ee008c3bf047a40a601726e9a0011ae294a57d2014d4eedae53cc70b"), looks := true }, kinds := [], alts := [], laidByText := true, laidKinds := [.handle], laidTests := true, laidLooks := .later }
def MergeChunksCardSaid : Prop := Claim7.holds Tryd.pinned (.plain (OpenSpec.ofChange mergeChunksSpec)) mergeChunksCard

/-- THE TIED CARD OF 'selvagelaw18.MergeTexts'. -/
def mergeTextsCard : Claim7 := { stood := { row := mergeTextsRow, standIns := [], harness := (true, "b9da0829ee008c3bf047a40a601726e9a0011ae294a57d2014d4eedae53cc70b"), looks := true }, kinds := [], alts := [], laidByText := true, laidKinds := [.handle], laidTests := true, laidLooks := .later }
def MergeTextsCardSaid : Prop := Claim7.holds Tryd.pinned (.plain (OpenSpec.ofChange mergeTextsSpec)) mergeTextsCard

/-- THE TIED CARD OF 'selvagelaw18.MergeCovers'. -/
def mergeCoversCard : Claim7 := { stood := { row := mergeCoversRow, standIns := [], harness := (true, "b9da0829ee008c3bf047a40a601726e9a0011ae294a57d2014d4eedae53cc70b"), looks := true }, kinds := [], alts := [], laidByText := true, laidKinds := [.handle], laidTests := true, laidLooks := .later }
def MergeCoversCardSaid : Prop := Claim7.holds Tryd.pinned (.plain (OpenSpec.ofChange mergeCoversSpec)) mergeCoversCard

/-- THE TIED CARD OF 'selvagelaw18.MergeOnes'. -/
def mergeOnesCard : Claim7 := { stood := { row := mergeOnesRow, standIns := [], harness := (true, "b9da0829ee008c3bf047a40a601726e9a0011ae294a57d2014d4eedae53cc70b"), looks := true }, kinds := [], alts := [], laidByText := true, laidKinds := [.handle], laidTests := true, laidLooks := .later }
def MergeOnesCardSaid : Prop := Claim7.holds Tryd.pinned (.plain (OpenSpec.ofChange mergeOnesSpec)) mergeOnesCard

/-- THE TIED CARD OF 'selvagelaw18.MergeTurned'. -/
def mergeTurnedCard : Claim7 := { stood := { row := mergeTurnedRow, standIns := [], harness := (true, "b9da0829ee008c3bf047a40a601726e9a0011ae294a57d2014d4eedae53cc70b"), looks := true }, kinds := [], alts := [], laidByText := true, laidKinds := [.handle], laidTests := true, laidLooks := .later }
def MergeTurnedCardSaid : Prop := Claim7.holds Tryd.pinned (.plain (OpenSpec.ofChange mergeTurnedSpec)) mergeTurnedCard

/-- THE TIED CARD OF 'selvagelaw18.MergeSettled'. -/
def mergeSettledCard : Claim7 := { stood := { row := mergeSettledRow, standIns := [], harness := (true, "b9da0829ee008c3bf047a40a601726e9a0011ae294a57d2014d4eedae53cc70b"), looks := true }, kinds := [], alts := [], laidByText := true, laidKinds := [.handle], laidTests := true, laidLooks := .later }
def MergeSettledCardSaid : Prop := Claim7.holds Tryd.pinned (.plain (OpenSpec.ofChange mergeSettledSpec)) mergeSettledCard

/-- THE TIED CARD OF 'selvagelaw18.MergeApart'. -/
def mergeApartCard : Claim7 := { stood := { row := mergeApartRow, standIns := [], harness := (true, "b9da0829ee008c3bf047a40a601726e9a0011ae294a57d2014d4eedae53cc70b"), looks := true }, kinds := [], alts := [], laidByText := true, laidKinds := [.handle], laidTests := true, laidLooks := .later }
def MergeApartCardSaid : Prop := Claim7.holds Tryd.pinned (.plain (OpenSpec.ofChange mergeApartSpec)) mergeApartCard

/-- THE TIED CARD OF 'selvagelaw18.MergeOntos'. -/
def mergeOntosCard : Claim7 := { stood := { row := mergeOntosRow, standIns := [], harness := (true, "b9da0829ee008c3bf047a40a601726e9a0011ae294a57d2014d4eedae53cc70b"), looks := true }, kinds := [], alts := [], laidByText := true, laidKinds := [.handle], laidTests := true, laidLooks := .later }
def MergeOntosCardSaid : Prop := Claim7.holds Tryd.pinned (.plain (OpenSpec.ofChange mergeOntosSpec)) mergeOntosCard

/-- THE TIED CARD OF 'selvagelaw18.MergeLeads'. -/
def mergeLeadsCard : Claim7 := { stood := { row := mergeLeadsRow, standIns := [], harness := (true, "b9da0829ee008c3bf047a40a601726e9a0011ae294a57d2014d4eedae53cc70b"), looks := true }, kinds := [], alts := [], laidByText := true, laidKinds := [.data, .data, .data, .handle], laidTests := true, laidLooks := .later }
def MergeLeadsCardSaid : Prop := Claim7.holds Tryd.pinned (.plain (OpenSpec.ofChange mergeLeadsSpec)) mergeLeadsCard

/-- THE SECOND FORM's CARD OF 'selvagelaw18.MergeChunks'. -/
def mergeChunksUptoCard : Claim7 := { stood := { row := mergeChunksUptoRow, standIns := [], harness := (true, "b9da0829ee008c3bf047a40a601726e9a0011ae294a57d2014d4eedae53cc70b"), looks := true }, kinds := [], alts := [], laidByText := true, laidKinds := [.handle], laidTests := true, laidLooks := .later }
def MergeChunksUptoCardSaid : Prop := Claim7.holds Tryd.pinned (.plain (OpenSpec.upto mergeChunksSpec)) mergeChunksUptoCard

/-- THE SECOND FORM's CARD OF 'selvagelaw18.MergeTexts'. -/
def mergeTextsUptoCard : Claim7 := { stood := { row := mergeTextsUptoRow, standIns := [], harness := (true, "b9da0829ee008c3bf047a40a601726e9a0011ae294a57d2014d4eedae53cc70b"), looks := true }, kinds := [], alts := [], laidByText := true, laidKinds := [.handle], laidTests := true, laidLooks := .later }
def MergeTextsUptoCardSaid : Prop := Claim7.holds Tryd.pinned (.plain (OpenSpec.upto mergeTextsSpec)) mergeTextsUptoCard

/-- THE SECOND FORM's CARD OF 'selvagelaw18.MergeCovers'. -/
def mergeCoversUptoCard : Claim7 := { stood := { row := mergeCoversUptoRow, standIns := [], harness := (true, "b9da0829ee008c3bf047a40a601726e9a0011ae294a57d2014d4eedae53cc70b"), looks := true }, kinds := [], alts := [], laidByText := true, laidKinds := [.handle], laidTests := true, laidLooks := .later }
def MergeCoversUptoCardSaid : Prop := Claim7.holds Tryd.pinned (.plain (OpenSpec.upto mergeCoversSpec)) mergeCoversUptoCard

/-- THE SECOND FORM's CARD OF 'selvagelaw18.MergeOnes'. -/
def mergeOnesUptoCard : Claim7 := { stood := { row := mergeOnesUptoRow, standIns := [], harness := (true, "b9da0829ee008c3bf047a40a601726e9a0011ae294a57d2014d4eedae53cc70b"), looks := true }, kinds := [], alts := [], laidByText := true, laidKinds := [.handle], laidTests := true, laidLooks := .later }
def MergeOnesUptoCardSaid : Prop := Claim7.holds Tryd.pinned (.plain (OpenSpec.upto mergeOnesSpec)) mergeOnesUptoCard

/-- THE SECOND FORM's CARD OF 'selvagelaw18.MergeTurned'. -/
def mergeTurnedUptoCard : Claim7 := { stood := { row := mergeTurnedUptoRow, standIns := [], harness := (true, "b9da0829ee008c3bf047a40a601726e9a0011ae294a57d2014d4eedae53cc70b"), looks := true }, kinds := [], alts := [], laidByText := true, laidKinds := [.handle], laidTests := true, laidLooks := .later }
def MergeTurnedUptoCardSaid : Prop := Claim7.holds Tryd.pinned (.plain (OpenSpec.upto mergeTurnedSpec)) mergeTurnedUptoCard

/-- THE SECOND FORM's CARD OF 'selvagelaw18.MergeSettled'. -/
def mergeSettledUptoCard : Claim7 := { stood := { row := mergeSettledUptoRow, standIns := [], harness := (true, "b9da0829ee008c3bf047a40a601726e9a0011ae294a57d2014d4eedae53cc70b"), looks := true }, kinds := [], alts := [], laidByText := true, laidKinds := [.handle], laidTests := true, laidLooks := .later }
def MergeSettledUptoCardSaid : Prop := Claim7.holds Tryd.pinned (.plain (OpenSpec.upto mergeSettledSpec)) mergeSettledUptoCard

/-- THE SECOND FORM's CARD OF 'selvagelaw18.MergeApart'. -/
def mergeApartUptoCard : Claim7 := { stood := { row := mergeApartUptoRow, standIns := [], harness := (true, "b9da0829ee008c3bf047a40a601726e9a0011ae294a57d2014d4eedae53cc70b"), looks := true }, kinds := [], alts := [], laidByText := true, laidKinds := [.handle], laidTests := true, laidLooks := .later }
def MergeApartUptoCardSaid : Prop := Claim7.holds Tryd.pinned (.plain (OpenSpec.upto mergeApartSpec)) mergeApartUptoCard

/-- THE SECOND FORM's CARD OF 'selvagelaw18.MergeOntos'. -/
def mergeOntosUptoCard : Claim7 := { stood := { row := mergeOntosUptoRow, standIns := [], harness := (true, "b9da0829ee008c3bf047a40a601726e9a0011ae294a57d2014d4eedae53cc70b"), looks := true }, kinds := [], alts := [], laidByText := true, laidKinds := [.handle], laidTests := true, laidLooks := .later }
def MergeOntosUptoCardSaid : Prop := Claim7.holds Tryd.pinned (.plain (OpenSpec.upto mergeOntosSpec)) mergeOntosUptoCard

/-- THE SECOND FORM's CARD OF 'selvagelaw18.MergeLeads'. -/
def mergeLeadsUptoCard : Claim7 := { stood := { row := mergeLeadsUptoRow, standIns := [], harness := (true, "b9da0829ee008c3bf047a40a601726e9a0011ae294a57d2014d4eedae53cc70b"), looks := true }, kinds := [], alts := [], laidByText := true, laidKinds := [.data, .data, .data, .handle], laidTests := true, laidLooks := .later }
def MergeLeadsUptoCardSaid : Prop := Claim7.holds Tryd.pinned (.plain (OpenSpec.upto mergeLeadsSpec)) mergeLeadsUptoCard
end Rows
end Go.Proofs.YtlmjkphiicmclaaDoor
