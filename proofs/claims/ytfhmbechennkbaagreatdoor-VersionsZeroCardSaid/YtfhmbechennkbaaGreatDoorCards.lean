/-
  DERIVED. GIVEN WITH THE SEED: THE CARDS: each row of YtfhmbechennkbaaGreatDoorRows.lean that lists a variable, with what it lists TIED to the program's text (the seventh form; the later family's looks); each row that meets fmt, with fmt's text TOLD by the authors' own Lean function (tested against real Go, not proved from fmt's source: count such statements apart). THE CARD IS WHAT COUNTS. Prove the row's statement (the work); the ties are given (YtfhmbechennkbaaGreatDoorTie.lean); close each card by the builder's one call (the guide's Derived/Test/ToyasCard.lean, 'card_holds'). Laid BY PROGRAM, IN A SANDBOX (cutbox-door.mjs). By AI agents, Wed Nov 11 2026. No macro, syntax, notation, axiom, sorry.
-/
import Derived.Test.YtfhmbechennkbaaGreatDoorRows
import GoSem.ClaimSeven
namespace Go.Proofs.YtfhmbechennkbaaGreatDoor
namespace Rows

/-- THE TIED CARD OF 'loftblocklaw29.LinesetChecks'. -/
def linesetChecksCard : Claim7 := { stood := { row := linesetChecksRow, standIns := [], harness := (true, "257042809f8b75c1ecf82bf96c42d55a55ebb8654820554086ca32dbaa7c70a1"), looks := true }, kinds := [], alts := [], laidByText := true, laidKinds := [.data, .data, .data], laidTests := true, laidLooks := .later }
def LinesetChecksCardSaid : Prop := Claim7.holds Tryz.pinned (.plain (OpenSpec.ofChange linesetChecksSpec)) linesetChecksCard

/-- THE TIED CARD OF 'loftblocklaw49.VersionsScript'. -/
def versionsScriptCard : Claim7 := { stood := { row := versionsScriptRow, standIns := [], harness := (true, "257042809f8b75c1ecf82bf96c42d55a55ebb8654820554086ca32dbaa7c70a1"), looks := true }, kinds := [], alts := [], laidByText := true, laidKinds := [.data, .data, .data], laidTests := true, laidLooks := .later }
def VersionsScriptCardSaid : Prop := Claim7.holds Tryz.pinned (.plain (OpenSpec.ofChange versionsScriptSpec)) versionsScriptCard

/-- THE TIED CARD OF 'loftblocklaw49.VersionsZero'. -/
def versionsZeroCard : Claim7 := { stood := { row := versionsZeroRow, standIns := [], harness := (true, "257042809f8b75c1ecf82bf96c42d55a55ebb8654820554086ca32dbaa7c70a1"), looks := true }, kinds := [], alts := [], laidByText := true, laidKinds := [.data, .data, .data], laidTests := true, laidLooks := .later }
def VersionsZeroCardSaid : Prop := Claim7.holds Tryz.pinned (.plain (OpenSpec.ofChange versionsZeroSpec)) versionsZeroCard

/-- THE SECOND FORM's CARD OF 'loftblocklaw29.LinesetChecks'. -/
def linesetChecksUptoCard : Claim7 := { stood := { row := linesetChecksUptoRow, standIns := [], harness := (true, "257042809f8b75c1ecf82bf96c42d55a55ebb8654820554086ca32dbaa7c70a1"), looks := true }, kinds := [], alts := [], laidByText := true, laidKinds := [.data, .data, .data], laidTests := true, laidLooks := .later }
def LinesetChecksUptoCardSaid : Prop := Claim7.holds Tryz.pinned (.plain (OpenSpec.upto linesetChecksSpec)) linesetChecksUptoCard

/-- THE SECOND FORM's CARD OF 'loftblocklaw49.VersionsScript'. -/
def versionsScriptUptoCard : Claim7 := { stood := { row := versionsScriptUptoRow, standIns := [], harness := (true, "257042809f8b75c1ecf82bf96c42d55a55ebb8654820554086ca32dbaa7c70a1"), looks := true }, kinds := [], alts := [], laidByText := true, laidKinds := [.data, .data, .data], laidTests := true, laidLooks := .later }
def VersionsScriptUptoCardSaid : Prop := Claim7.holds Tryz.pinned (.plain (OpenSpec.upto versionsScriptSpec)) versionsScriptUptoCard

/-- THE SECOND FORM's CARD OF 'loftblocklaw49.VersionsZero'. -/
def versionsZeroUptoCard : Claim7 := { stood := { row := versionsZeroUptoRow, standIns := [], harness := (true, "257042809f8b75c1ecf82bf96c42d55a55ebb8654820554086ca32dbaa7c70a1"), looks := true }, kinds := [], alts := [], laidByText := true, laidKinds := [.data, .data, .data], laidTests := true, laidLooks := .later }
def VersionsZeroUptoCardSaid : Prop := Claim7.holds Tryz.pinned (.plain (OpenSpec.upto versionsZeroSpec)) versionsZeroUptoCard
end Rows
end Go.Proofs.YtfhmbechennkbaaGreatDoor
