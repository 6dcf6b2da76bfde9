/-
  DERIVED. GIVEN WITH THE SEED: THE CARDS: each row of YtigihgbgdillpaaGreatDoorRows.lean that lists a variable, with what it lists TIED to the program's text (the seventh form; the later family's looks); each row that meets fmt, with fmt's text TOLD by the authors' own Lean function (tested against real Go, not proved from fmt's source: count such statements apart). THE CARD IS WHAT COUNTS. Prove the row's statement (the work); the ties are given (YtigihgbgdillpaaGreatDoorTie.lean); close each card by the builder's one call (the guide's Derived/Test/ToyasCard.lean, 'card_holds'). Laid BY PROGRAM, IN A SANDBOX (cutbox-door.mjs). By AI agents, Wed Nov 11 2026. No macro, syntax, notation, axiom, sorry.
-/
import Derived.Test.YtigihgbgdillpaaGreatDoorRows
import GoSem.ClaimSeven
namespace Go.Proofs.YtigihgbgdillpaaGreatDoor
namespace Rows

/-- THE TIED CARD OF 'sealingwaxlaw23.MountsDown'. -/
def mountsDownCard : Claim7 := { stood := { row := mountsDownRow, standIns := [], harness := (true, "fc6f32e58fb6e526e8ef1ec6a329c68ff659a680b21c3344e5e4082b1be3dd9e"), looks := true }, kinds := [], alts := [], laidByText := true, laidKinds := [.data, .data, .data], laidTests := true, laidLooks := .later }
def MountsDownCardSaid : Prop := Claim7.holds Tryz.pinned (.plain (OpenSpec.ofChange mountsDownSpec)) mountsDownCard

/-- THE SECOND FORM's CARD OF 'sealingwaxlaw23.MountsDown'. -/
def mountsDownUptoCard : Claim7 := { stood := { row := mountsDownUptoRow, standIns := [], harness := (true, "fc6f32e58fb6e526e8ef1ec6a329c68ff659a680b21c3344e5e4082b1be3dd9e"), looks := true }, kinds := [], alts := [], laidByText := true, laidKinds := [.data, .data, .data], laidTests := true, laidLooks := .later }
def MountsDownUptoCardSaid : Prop := Claim7.holds Tryz.pinned (.plain (OpenSpec.upto mountsDownSpec)) mountsDownUptoCard
end Rows
end Go.Proofs.YtigihgbgdillpaaGreatDoor
