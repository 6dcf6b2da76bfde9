/-
  DERIVED. GIVEN WITH THE SEED: THE CARDS: each row of YtdkeiefgkgpcbaaGreatDoorRows.lean that lists a variable, with what it lists TIED to the program's text (the seventh form; the later family's looks); each row that meets fmt, with fmt's text TOLD by the authors' own Lean function (tested against real Go, not proved from fmt's source: count such statements apart). THE CARD IS WHAT COUNTS. Prove the row's statement (the work); the ties are given (YtdkeiefgkgpcbaaGreatDoorTie.lean); close each card by the builder's one call (the guide's Derived/Test/ToyasCard.lean, 'card_holds'). Laid BY PROGRAM, IN A SANDBOX (cutbox-door.mjs). By AI agents, Wed Nov 11 2026. No macro, syntax, notation, axiom, sorry.
-/
import Derived.Test.YtdkeiefgkgpcbaaGreatDoorRows
import GoSem.ClaimSeven
namespace Go.Proofs.YtdkeiefgkgpcbaaGreatDoor
namespace Rows

/-- THE TIED CARD OF 'sealingwaxlaw23.MountsReplay'. -/
def mountsReplayCard : Claim7 := { stood := { row := mountsReplayRow, standIns := [], harness := (true, "44404d3c6b4dca10751decef35bda2213d51fe443a8c8ec2c31aae5bc50fed4e"), looks := true }, kinds := [], alts := [], laidByText := true, laidKinds := [.data, .data, .data], laidTests := true, laidLooks := .later }
def MountsReplayCardSaid : Prop := Claim7.holds Tryz.pinned (.plain (OpenSpec.ofChange mountsReplaySpec)) mountsReplayCard

/-- THE TIED CARD OF 'sealingwaxlaw23.MountsFormat'. -/
def mountsFormatCard : Claim7 := { stood := { row := mountsFormatRow, standIns := [], harness := (true, "44404d3c6b4dca10751decef35bda2213d51fe443a8c8ec2c31aae5bc50fed4e"), looks := true }, kinds := [], alts := [], laidByText := true, laidKinds := [.data, .data, .data], laidTests := true, laidLooks := .later }
def MountsFormatCardSaid : Prop := Claim7.holds Tryz.pinned (.plain (OpenSpec.ofChange mountsFormatSpec)) mountsFormatCard

/-- THE TIED CARD OF 'sealingwaxlaw23.MountsTwice'. -/
def mountsTwiceCard : Claim7 := { stood := { row := mountsTwiceRow, standIns := [], harness := (true, "44404d3c6b4dca10751decef35bda2213d51fe443a8c8ec2c31aae5bc50fed4e"), looks := true }, kinds := [], alts := [], laidByText := true, laidKinds := [.data, .data, .data], laidTests := true, laidLooks := .later }
def MountsTwiceCardSaid : Prop := Claim7.holds Tryz.pinned (.plain (OpenSpec.ofChange mountsTwiceSpec)) mountsTwiceCard

/-- THE TIED CARD OF 'sealingwaxlaw23.MountsCrash'. -/
def mountsCrashCard : Claim7 := { stood := { row := mountsCrashRow, standIns := [], harness := (true, "44404d3c6b4dca10751decef35bda2213d51fe443a8c8ec2c31aae5bc50fed4e"), looks := true }, kinds := [], alts := [], laidByText := true, laidKinds := [.data, .data, .data], laidTests := true, laidLooks := .later }
def MountsCrashCardSaid : Prop := Claim7.holds Tryz.pinned (.plain (OpenSpec.ofChange mountsCrashSpec)) mountsCrashCard

/-- THE SECOND FORM's CARD OF 'sealingwaxlaw23.MountsReplay'. -/
def mountsReplayUptoCard : Claim7 := { stood := { row := mountsReplayUptoRow, standIns := [], harness := (true, "44404d3c6b4dca10751decef35bda2213d51fe443a8c8ec2c31aae5bc50fed4e"), looks := true }, kinds := [], alts := [], laidByText := true, laidKinds := [.data, .data, .data], laidTests := true, laidLooks := .later }
def MountsReplayUptoCardSaid : Prop := Claim7.holds Tryz.pinned (.plain (OpenSpec.upto mountsReplaySpec)) mountsReplayUptoCard

/-- THE SECOND FORM's CARD OF 'sealingwaxlaw23.MountsFormat'. -/
def mountsFormatUptoCard : Claim7 := { stood := { row := mountsFormatUptoRow, standIns := [], harness := (true, "44404d3c6b4dca10751decef35bda2213d51fe443a8c8ec2c31aae5bc50fed4e"), looks := true }, kinds := [], alts := [], laidByText := true, laidKinds := [.data, .data, .data], laidTests := true, laidLooks := .later }
def MountsFormatUptoCardSaid : Prop := Claim7.holds Tryz.pinned (.plain (OpenSpec.upto mountsFormatSpec)) mountsFormatUptoCard

/-- THE SECOND FORM's CARD OF 'sealingwaxlaw23.MountsTwice'. -/
def mountsTwiceUptoCard : Claim7 := { stood := { row := mountsTwiceUptoRow, standIns := [], harness := (true, "44404d3c6b4dca10751decef35bda2213d51fe443a8c8ec2c31aae5bc50fed4e"), looks := true }, kinds := [], alts := [], laidByText := true, laidKinds := [.data, .data, .data], laidTests := true, laidLooks := .later }
def MountsTwiceUptoCardSaid : Prop := Claim7.holds Tryz.pinned (.plain (OpenSpec.upto mountsTwiceSpec)) mountsTwiceUptoCard

/-- THE SECOND FORM's CARD OF 'sealingwaxlaw23.MountsCrash'. -/
def mountsCrashUptoCard : Claim7 := { stood := { row := mountsCrashUptoRow, standIns := [], harness := (true, "44404d3c6b4dca10751decef35bda2213d51fe443a8c8ec2c31aae5bc50fed4e"), looks := true }, kinds := [], alts := [], laidByText := true, laidKinds := [.data, .data, .data], laidTests := true, laidLooks := .later }
def MountsCrashUptoCardSaid : Prop := Claim7.holds Tryz.pinned (.plain (OpenSpec.upto mountsCrashSpec)) mountsCrashUptoCard
end Rows
end Go.Proofs.YtdkeiefgkgpcbaaGreatDoor
