/-
  DERIVED. GIVEN WITH THE SEED: THE CARDS: each row of YtkplhpnhjfdelaaGreatDoorRows.lean that lists a variable, with what it lists TIED to the program's text (the seventh form; the later family's looks); each row that meets fmt, with fmt's text TOLD by the authors' own Lean function (tested against real Go, not proved from fmt's source: count such statements apart). THE CARD IS WHAT COUNTS. Prove the row's statement (the work); the ties are given (YtkplhpnhjfdelaaGreatDoorTie.lean); close each card by the builder's one call (the guide's Derived/Test/ToyasCard.lean, 'card_holds'). Laid BY PROGRAM, IN A SANDBOX (cutbox-door.mjs). By AI agents, Wed Nov 11 2026. No macro, syntax, notation, axiom, sorry.
-/
import Derived.Test.YtkplhpnhjfdelaaGreatDoorRows
import GoSem.ClaimSeven
namespace Go.Proofs.YtkplhpnhjfdelaaGreatDoor
namespace Rows

/-- THE TIED CARD OF 'cayleylaw.PermCycles'. -/
def permCyclesCard : Claim7 := { stood := { row := permCyclesRow, standIns := [], harness := (true, "6390d4aea2c5d3c576750bb833230ade2af74ce10ae7ee12af2d48a567b7e9bc"), looks := true }, kinds := [], alts := [], laidByText := true, laidKinds := [.data, .data, .data, .data, .data, .data, .data, .data], laidTests := true, laidLooks := .later }
def PermCyclesCardSaid : Prop := Claim7.holds Tryz.pinned (.plain (OpenSpec.ofChange permCyclesSpec)) permCyclesCard

/-- THE SECOND FORM's CARD OF 'cayleylaw.PermCycles'. -/
def permCyclesUptoCard : Claim7 := { stood := { row := permCyclesUptoRow, standIns := [], harness := (true, "6390d4aea2c5d3c576750bb833230ade2af74ce10ae7ee12af2d48a567b7e9bc"), looks := true }, kinds := [], alts := [], laidByText := true, laidKinds := [.data, .data, .data, .data, .data, .data, .data, .data], laidTests := true, laidLooks := .later }
def PermCyclesUptoCardSaid : Prop := Claim7.holds Tryz.pinned (.plain (OpenSpec.upto permCyclesSpec)) permCyclesUptoCard
end Rows
end Go.Proofs.YtkplhpnhjfdelaaGreatDoor
