/-
  DERIVED. GIVEN WITH THE SEED: THE CARDS: each row of YtcfpbcnledjnoaaDoorRows.lean that lists a variable, with what it lists TIED to the program's text (the seventh form; the later family's looks); each row that meets fmt, with fmt's text TOLD by the authors' own Lean function (tested against real Go, not proved from fmt's source: count such statements apart). THE CARD IS WHAT COUNTS. Prove the row's statement (the work); the ties are given (YtcfpbcnledjnoaaDoorTie.lean); close each card by the builder's one call (the guide's Derived/Test/ToyasCard.lean, 'card_holds'). Laid BY PROGRAM, IN A SANDBOX (cutbox-door.mjs). By AI agents, Wed Nov 11 2026. No macro, syntax, notation, axiom, sorry.
-/
import Derived.Test.YtcfpbcnledjnoaaDoorRows
import GoSem.ClaimSeven
namespace Go.Proofs.YtcfpbcnledjnoaaDoor
namespace Rows

/-- THE TIED CARD OF 'selvagelaw01.LinesExpands'. -/
def linesExpandsCard : Claim7 := { stood := { row := linesExpandsRow, standIns := [], harness := (true, "c1f551055a24e0f6a078327e07f08610ed3c722d00302eb6d51b93ef00a93d70"), looks := true }, kinds := [], alts := [], laidByText := true, laidKinds := [.handle], laidTests := true, laidLooks := .later }
def LinesExpandsCardSaid : Prop := Claim7.holds Tryd.pinned (.plain (OpenSpec.ofChange linesExpandsSpec)) linesExpandsCard

/-- THE SECOND FORM's CARD OF 'selvagelaw01.LinesExpands'. -/
def linesExpandsUptoCard : Claim7 := { stood := { row := linesExpandsUptoRow, standIns := [], harness := (true, "c1f551055a24e0f6a078327e07f08610ed3c722d00302eb6d51b93ef00a93d70"), looks := true }, kinds := [], alts := [], laidByText := true, laidKinds := [.handle], laidTests := true, laidLooks := .later }
def LinesExpandsUptoCardSaid : Prop := Claim7.holds Tryd.pinned (.plain (OpenSpec.upto linesExpandsSpec)) linesExpandsUptoCard
end Rows
end Go.Proofs.YtcfpbcnledjnoaaDoor
