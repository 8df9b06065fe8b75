/-
  DERIVED. GIVEN WITH THE SEED: THE CARDS: each row of YtjlobgcmhnkgnaaDoorRows.lean that lists a variable, with what it lists TIED to the program's text (the seventh form; the later family's looks); each row that meets fmt, with fmt's text TOLD by the authors' own Lean function (tested against real Go, not proved from fmt's source: count such statements apart). THE CARD IS WHAT COUNTS. Prove the row's statement (the work); the ties are given (YtjlobgcmhnkgnaaDoorTie.lean); close each card by the builder's one call (the guide's Derived/Test/ToyasCard.lean, 'card_holds'). Laid BY PROGRAM, IN A SANDBOX (cutbox-door.mjs). By AI agents, Wed Nov 11 2026. No macro, syntax, notation, axiom, sorry.
-/
import Derived.Test.YtjlobgcmhnkgnaaDoorRows
import GoSem.ClaimSeven
namespace Go.Proofs.YtjlobgcmhnkgnaaDoor
namespace Rows

/-- THE TIED CARD OF 'selvagelaw15.SideInlines'. -/
def sideInlinesCard : Claim7 := { stood := { row := sideInlinesRow, standIns := [], harness := (true, "a3bdc920b9b5afd9014f032e12ffb333c07cbff5953b2560b0367b8c4939d92d"), looks := true }, kinds := [], alts := [], laidByText := true, laidKinds := [.handle], laidTests := true, laidLooks := .later }
def SideInlinesCardSaid : Prop := Claim7.holds Tryd.pinned (.plain (OpenSpec.ofChange sideInlinesSpec)) sideInlinesCard

/-- THE TIED CARD OF 'selvagelaw15.SideBack'. -/
def sideBackCard : Claim7 := { stood := { row := sideBackRow, standIns := [], harness := (true, "a3bdc920b9b5afd9014f032e12ffb333c07cbff5953b2560b0367b8c4939d92d"), looks := true }, kinds := [], alts := [], laidByText := true, laidKinds := [.handle], laidTests := true, laidLooks := .later }
def SideBackCardSaid : Prop := Claim7.holds Tryd.pinned (.plain (OpenSpec.ofChange sideBackSpec)) sideBackCard

/-- THE TIED CARD OF 'selvagelaw15.SidePrints'. -/
def sidePrintsCard : Claim7 := { stood := { row := sidePrintsRow, standIns := [], harness := (true, "a3bdc920b9b5afd9014f032e12ffb333c07cbff5953b2560b0367b8c4939d92d"), looks := true }, kinds := [], alts := [], laidByText := true, laidKinds := [.handle], laidTests := true, laidLooks := .later }
def SidePrintsCardSaid : Prop := Claim7.holds Tryd.pinned (.plain (OpenSpec.ofChange sidePrintsSpec)) sidePrintsCard

/-- THE TIED CARD OF 'selvagelaw15.SideCuts'. -/
def sideCutsCard : Claim7 := { stood := { row := sideCutsRow, standIns := [], harness := (true, "a3bdc920b9b5afd9014f032e12ffb333c07cbff5953b2560b0367b8c4939d92d"), looks := true }, kinds := [], alts := [], laidByText := true, laidKinds := [.handle], laidTests := true, laidLooks := .later }
def SideCutsCardSaid : Prop := Claim7.holds Tryd.pinned (.plain (OpenSpec.ofChange sideCutsSpec)) sideCutsCard

/-- THE TIED CARD OF 'selvagelaw15.SideFits'. -/
def sideFitsCard : Claim7 := { stood := { row := sideFitsRow, standIns := [], harness := (true, "a3bdc920b9b5afd9014f032e12ffb333c07cbff5953b2560b0367b8c4939d92d"), looks := true }, kinds := [], alts := [], laidByText := true, laidKinds := [.handle], laidTests := true, laidLooks := .later }
def SideFitsCardSaid : Prop := Claim7.holds Tryd.pinned (.plain (OpenSpec.ofChange sideFitsSpec)) sideFitsCard

/-- THE SECOND FORM's CARD OF 'selvagelaw15.SideInlines'. -/
def sideInlinesUptoCard : Claim7 := { stood := { row := sideInlinesUptoRow, standIns := [], harness := (true, "a3bdc920b9b5afd9014f032e12ffb333c07cbff5953b2560b0367b8c4939d92d"), looks := true }, kinds := [], alts := [], laidByText := true, laidKinds := [.handle], laidTests := true, laidLooks := .later }
def SideInlinesUptoCardSaid : Prop := Claim7.holds Tryd.pinned (.plain (OpenSpec.upto sideInlinesSpec)) sideInlinesUptoCard

/-- THE SECOND FORM's CARD OF 'selvagelaw15.SideBack'. -/
def sideBackUptoCard : Claim7 := { stood := { row := sideBackUptoRow, standIns := [], harness := (true, "a3bdc920b9b5afd9014f032e12ffb333c07cbff5953b2560b0367b8c4939d92d"), looks := true }, kinds := [], alts := [], laidByText := true, laidKinds := [.handle], laidTests := true, laidLooks := .later }
def SideBackUptoCardSaid : Prop := Claim7.holds Tryd.pinned (.plain (OpenSpec.upto sideBackSpec)) sideBackUptoCard

/-- THE SECOND FORM's CARD OF 'selvagelaw15.SidePrints'. -/
def sidePrintsUptoCard : Claim7 := { stood := { row := sidePrintsUptoRow, standIns := [], harness := (true, "a3bdc920b9b5afd9014f032e12ffb333c07cbff5953b2560b0367b8c4939d92d"), looks := true }, kinds := [], alts := [], laidByText := true, laidKinds := [.handle], laidTests := true, laidLooks := .later }
def SidePrintsUptoCardSaid : Prop := Claim7.holds Tryd.pinned (.plain (OpenSpec.upto sidePrintsSpec)) sidePrintsUptoCard

/-- THE SECOND FORM's CARD OF 'selvagelaw15.SideCuts'. -/
def sideCutsUptoCard : Claim7 := { stood := { row := sideCutsUptoRow, standIns := [], harness := (true, "a3bdc920b9b5afd9014f032e12ffb333c07cbff5953b2560b0367b8c4939d92d"), looks := true }, kinds := [], alts := [], laidByText := true, laidKinds := [.handle], laidTests := true, laidLooks := .later }
def SideCutsUptoCardSaid : Prop := Claim7.holds Tryd.pinned (.plain (OpenSpec.upto sideCutsSpec)) sideCutsUptoCard

/-- THE SECOND FORM's CARD OF 'selvagelaw15.SideFits'. -/
def sideFitsUptoCard : Claim7 := { stood := { row := sideFitsUptoRow, standIns := [], harness := (true, "a3bdc920b9b5afd9014f032e12ffb333c07cbff5953b2560b0367b8c4939d92d"), looks := true }, kinds := [], alts := [], laidByText := true, laidKinds := [.handle], laidTests := true, laidLooks := .later }
def SideFitsUptoCardSaid : Prop := Claim7.holds Tryd.pinned (.plain (OpenSpec.upto sideFitsSpec)) sideFitsUptoCard
end Rows
end Go.Proofs.YtjlobgcmhnkgnaaDoor
