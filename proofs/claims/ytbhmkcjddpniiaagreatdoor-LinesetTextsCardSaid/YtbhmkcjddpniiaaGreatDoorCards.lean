/-
  DERIVED. GIVEN WITH THE SEED: THE CARDS: each row of YtbhmkcjddpniiaaGreatDoorRows.lean that lists a variable, with what it lists TIED to the program's text (the seventh form; the later family's looks); each row that meets fmt, with fmt's text TOLD by the authors' own Lean function (tested against real Go, not proved from fmt's source: count such statements apart). THE CARD IS WHAT COUNTS. Prove the row's statement (the work); the ties are given (YtbhmkcjddpniiaaGreatDoorTie.lean); close each card by the builder's one call (the guide's Derived/Test/ToyasCard.lean, 'card_holds'). Laid BY PROGRAM, IN A SANDBOX (cutbox-door.mjs). By AI agents, Wed Nov 11 2026. No macro, syntax, notation, axiom, sorry.
-/
import Derived.Test.YtbhmkcjddpniiaaGreatDoorRows
import GoSem.ClaimSeven
namespace Go.Proofs.YtbhmkcjddpniiaaGreatDoor
namespace Rows

/-- THE TIED CARD OF 'loftblocklaw29.LinesetChecks'. -/
def linesetChecksCard : Claim7 := { stood := { row := linesetChecksRow, standIns := [], harness := (true, "2e2777e2e86a6d571d696316990def1246a8c5fea66b4405619dcb57f568a717"), looks := true }, kinds := [], alts := [], laidByText := true, laidKinds := [.data, .data, .data], laidTests := true, laidLooks := .later }
def LinesetChecksCardSaid : Prop := Claim7.holds Tryz.pinned (.plain (OpenSpec.ofChange linesetChecksSpec)) linesetChecksCard

/-- THE TIED CARD OF 'loftblocklaw49.VersionsApart'. -/
def versionsApartCard : Claim7 := { stood := { row := versionsApartRow, standIns := [], harness := (true, "2e2777e2e86a6d571d696316990def1246a8c5fea66b4405619dcb57f568a717"), looks := true }, kinds := [], alts := [], laidByText := true, laidKinds := [.data, .data, .data], laidTests := true, laidLooks := .later }
def VersionsApartCardSaid : Prop := Claim7.holds Tryz.pinned (.plain (OpenSpec.ofChange versionsApartSpec)) versionsApartCard

/-- THE TIED CARD OF 'loftblocklaw49.VersionsScript'. -/
def versionsScriptCard : Claim7 := { stood := { row := versionsScriptRow, standIns := [], harness := (true, "2e2777e2e86a6d571d696316990def1246a8c5fea66b4405619dcb57f568a717"), looks := true }, kinds := [], alts := [], laidByText := true, laidKinds := [.data, .data, .data], laidTests := true, laidLooks := .later }
def VersionsScriptCardSaid : Prop := Claim7.holds Tryz.pinned (.plain (OpenSpec.ofChange versionsScriptSpec)) versionsScriptCard

/-- THE TIED CARD OF 'loftblocklaw49.VersionsZero'. -/
def versionsZeroCard : Claim7 := { stood := { row := versionsZeroRow, standIns := [], harness := (true, "2e2777e2e86a6d571d696316990def1246a8c5fea66b4405619dcb57f568a717"), looks := true }, kinds := [], alts := [], laidByText := true, laidKinds := [.data, .data, .data], laidTests := true, laidLooks := .later }
def VersionsZeroCardSaid : Prop := Claim7.holds Tryz.pinned (.plain (OpenSpec.ofChange versionsZeroSpec)) versionsZeroCard

/-- THE TIED CARD OF 'loftblocklaw49.VersionsFollow'. -/
def versionsFollowCard : Claim7 := { stood := { row := versionsFollowRow, standIns := [], harness := (true, "2e2777e2e86a6d571d696316990def1246a8c5fea66b4405619dcb57f568a717"), looks := true }, kinds := [], alts := [], laidByText := true, laidKinds := [.data, .data, .data], laidTests := true, laidLooks := .later }
def VersionsFollowCardSaid : Prop := Claim7.holds Tryz.pinned (.plain (OpenSpec.ofChange versionsFollowSpec)) versionsFollowCard

/-- THE TIED CARD OF 'loftblocklaw49.VersionsUndone'. -/
def versionsUndoneCard : Claim7 := { stood := { row := versionsUndoneRow, standIns := [], harness := (true, "2e2777e2e86a6d571d696316990def1246a8c5fea66b4405619dcb57f568a717"), looks := true }, kinds := [], alts := [], laidByText := true, laidKinds := [.data, .data, .data], laidTests := true, laidLooks := .later }
def VersionsUndoneCardSaid : Prop := Claim7.holds Tryz.pinned (.plain (OpenSpec.ofChange versionsUndoneSpec)) versionsUndoneCard

/-- THE TIED CARD OF 'loftblocklaw49.VersionsOthers'. -/
def versionsOthersCard : Claim7 := { stood := { row := versionsOthersRow, standIns := [], harness := (true, "2e2777e2e86a6d571d696316990def1246a8c5fea66b4405619dcb57f568a717"), looks := true }, kinds := [], alts := [], laidByText := true, laidKinds := [.data, .data, .data], laidTests := true, laidLooks := .later }
def VersionsOthersCardSaid : Prop := Claim7.holds Tryz.pinned (.plain (OpenSpec.ofChange versionsOthersSpec)) versionsOthersCard

/-- THE TIED CARD OF 'loftblocklaw29.LinesetTexts'. -/
def linesetTextsCard : Claim7 := { stood := { row := linesetTextsRow, standIns := [], harness := (true, "2e2777e2e86a6d571d696316990def1246a8c5fea66b4405619dcb57f568a717"), looks := true }, kinds := [], alts := [], laidByText := true, laidKinds := [.data, .data, .data], laidTests := true, laidLooks := .later }
def LinesetTextsCardSaid : Prop := Claim7.holds Tryz.pinned (.plain (OpenSpec.ofChange linesetTextsSpec)) linesetTextsCard

/-- THE TIED CARD OF 'loftblocklaw29.LinesetDiffers'. -/
def linesetDiffersCard : Claim7 := { stood := { row := linesetDiffersRow, standIns := [], harness := (true, "2e2777e2e86a6d571d696316990def1246a8c5fea66b4405619dcb57f568a717"), looks := true }, kinds := [], alts := [], laidByText := true, laidKinds := [.data, .data, .data], laidTests := true, laidLooks := .later }
def LinesetDiffersCardSaid : Prop := Claim7.holds Tryz.pinned (.plain (OpenSpec.ofChange linesetDiffersSpec)) linesetDiffersCard

/-- THE SECOND FORM's CARD OF 'loftblocklaw29.LinesetChecks'. -/
def linesetChecksUptoCard : Claim7 := { stood := { row := linesetChecksUptoRow, standIns := [], harness := (true, "2e2777e2e86a6d571d696316990def1246a8c5fea66b4405619dcb57f568a717"), looks := true }, kinds := [], alts := [], laidByText := true, laidKinds := [.data, .data, .data], laidTests := true, laidLooks := .later }
def LinesetChecksUptoCardSaid : Prop := Claim7.holds Tryz.pinned (.plain (OpenSpec.upto linesetChecksSpec)) linesetChecksUptoCard

/-- THE SECOND FORM's CARD OF 'loftblocklaw49.VersionsApart'. -/
def versionsApartUptoCard : Claim7 := { stood := { row := versionsApartUptoRow, standIns := [], harness := (true, "2e2777e2e86a6d571d696316990def1246a8c5fea66b4405619dcb57f568a717"), looks := true }, kinds := [], alts := [], laidByText := true, laidKinds := [.data, .data, .data], laidTests := true, laidLooks := .later }
def VersionsApartUptoCardSaid : Prop := Claim7.holds Tryz.pinned (.plain (OpenSpec.upto versionsApartSpec)) versionsApartUptoCard

/-- THE SECOND FORM's CARD OF 'loftblocklaw49.VersionsScript'. -/
def versionsScriptUptoCard : Claim7 := { stood := { row := versionsScriptUptoRow, standIns := [], harness := (true, "2e2777e2e86a6d571d696316990def1246a8c5fea66b4405619dcb57f568a717"), looks := true }, kinds := [], alts := [], laidByText := true, laidKinds := [.data, .data, .data], laidTests := true, laidLooks := .later }
def VersionsScriptUptoCardSaid : Prop := Claim7.holds Tryz.pinned (.plain (OpenSpec.upto versionsScriptSpec)) versionsScriptUptoCard

/-- THE SECOND FORM's CARD OF 'loftblocklaw49.VersionsZero'. -/
def versionsZeroUptoCard : Claim7 := { stood := { row := versionsZeroUptoRow, standIns := [], harness := (true, "2e2777e2e86a6d571d696316990def1246a8c5fea66b4405619dcb57f568a717"), looks := true }, kinds := [], alts := [], laidByText := true, laidKinds := [.data, .data, .data], laidTests := true, laidLooks := .later }
def VersionsZeroUptoCardSaid : Prop := Claim7.holds Tryz.pinned (.plain (OpenSpec.upto versionsZeroSpec)) versionsZeroUptoCard

/-- THE SECOND FORM's CARD OF 'loftblocklaw49.VersionsFollow'. -/
def versionsFollowUptoCard : Claim7 := { stood := { row := versionsFollowUptoRow, standIns := [], harness := (true, "2e2777e2e86a6d571d696316990def1246a8c5fea66b4405619dcb57f568a717"), looks := true }, kinds := [], alts := [], laidByText := true, laidKinds := [.data, .data, .data], laidTests := true, laidLooks := .later }
def VersionsFollowUptoCardSaid : Prop := Claim7.holds Tryz.pinned (.plain (OpenSpec.upto versionsFollowSpec)) versionsFollowUptoCard

/-- THE SECOND FORM's CARD OF 'loftblocklaw49.VersionsUndone'. -/
def versionsUndoneUptoCard : Claim7 := { stood := { row := versionsUndoneUptoRow, standIns := [], harness := (true, "2e2777e2e86a6d571d696316990def1246a8c5fea66b4405619dcb57f568a717"), looks := true }, kinds := [], alts := [], laidByText := true, laidKinds := [.data, .data, .data], laidTests := true, laidLooks := .later }
def VersionsUndoneUptoCardSaid : Prop := Claim7.holds Tryz.pinned (.plain (OpenSpec.upto versionsUndoneSpec)) versionsUndoneUptoCard

/-- THE SECOND FORM's CARD OF 'loftblocklaw49.VersionsOthers'. -/
def versionsOthersUptoCard : Claim7 := { stood := { row := versionsOthersUptoRow, standIns := [], harness := (true, "2e2777e2e86a6d571d696316990def1246a8c5fea66b4405619dcb57f568a717"), looks := true }, kinds := [], alts := [], laidByText := true, laidKinds := [.data, .data, .data], laidTests := true, laidLooks := .later }
def VersionsOthersUptoCardSaid : Prop := Claim7.holds Tryz.pinned (.plain (OpenSpec.upto versionsOthersSpec)) versionsOthersUptoCard

/-- THE SECOND FORM's CARD OF 'loftblocklaw29.LinesetTexts'. -/
def linesetTextsUptoCard : Claim7 := { stood := { row := linesetTextsUptoRow, standIns := [], harness := (true, "2e2777e2e86a6d571d696316990def1246a8c5fea66b4405619dcb57f568a717"), looks := true }, kinds := [], alts := [], laidByText := true, laidKinds := [.data, .data, .data], laidTests := true, laidLooks := .later }
def LinesetTextsUptoCardSaid : Prop := Claim7.holds Tryz.pinned (.plain (OpenSpec.upto linesetTextsSpec)) linesetTextsUptoCard

/-- THE SECOND FORM's CARD OF 'loftblocklaw29.LinesetDiffers'. -/
def linesetDiffersUptoCard : Claim7 := { stood := { row := linesetDiffersUptoRow, standIns := [], harness := (true, "2e2777e2e86a6d571d696316990def1246a8c5fea66b4405619dcb57f568a717"), looks := true }, kinds := [], alts := [], laidByText := true, laidKinds := [.data, .data, .data], laidTests := true, laidLooks := .later }
def LinesetDiffersUptoCardSaid : Prop := Claim7.holds Tryz.pinned (.plain (OpenSpec.upto linesetDiffersSpec)) linesetDiffersUptoCard
end Rows
end Go.Proofs.YtbhmkcjddpniiaaGreatDoor
