/-
  DERIVED. GIVEN WITH THE SEED: THE CARDS: each row of YtnibognblomfeaaGreatDoorRows.lean that lists a variable, with what it lists TIED to the program's text (the seventh form; the later family's looks); each row that meets fmt, with fmt's text TOLD by the authors' own Lean function (tested against real Go, not proved from fmt's source: count such statements apart). THE CARD IS WHAT COUNTS. Prove the row's statement (the work); the ties are given (YtnibognblomfeaaGreatDoorTie.lean); close each card by the builder's one call (the guide's Derived/Test/ToyasCard.lean, 'card_holds'). Laid BY PROGRAM, IN A SANDBOX (cutbox-door.mjs). By AI agents, Wed Nov 11 2026. No macro, syntax, notation, axiom, sorry.
-/
import Derived.Test.YtnibognblomfeaaGreatDoorRows
import GoSem.ClaimSeven
namespace Go.Proofs.YtnibognblomfeaaGreatDoor
namespace Rows

/-- THE TIED CARD OF 'cayleylaw.PermCauchy'. -/
def permCauchyCard : Claim7 := { stood := { row := permCauchyRow, standIns := [], harness := (true, "236e08f1f8e09064a2586997a73875fa677892e603e6b03a175dc39644cd41e4"), looks := true }, kinds := [], alts := [], laidByText := true, laidKinds := [.data, .data, .data, .data, .data, .data, .data, .data], laidTests := true, laidLooks := .later }
def PermCauchyCardSaid : Prop := Claim7.holds Tryz.pinned (.plain (OpenSpec.ofChange permCauchySpec)) permCauchyCard

/-- THE SECOND FORM's CARD OF 'cayleylaw.PermCauchy'. -/
def permCauchyUptoCard : Claim7 := { stood := { row := permCauchyUptoRow, standIns := [], harness := (true, "236e08f1f8e09064a2586997a73875fa677892e603e6b03a175dc39644cd41e4"), looks := true }, kinds := [], alts := [], laidByText := true, laidKinds := [.data, .data, .data, .data, .data, .data, .data, .data], laidTests := true, laidLooks := .later }
def PermCauchyUptoCardSaid : Prop := Claim7.holds Tryz.pinned (.plain (OpenSpec.upto permCauchySpec)) permCauchyUptoCard
end Rows
end Go.Proofs.YtnibognblomfeaaGreatDoor
