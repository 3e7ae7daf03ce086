/-
  DERIVED. GIVEN WITH THE SEED: THE CARDS: each row of YtknkhnahflmjiaaGreatDoorRows.lean that lists a variable, with what it lists TIED to the program's text (the seventh form; the later family's looks); each row that meets fmt, with fmt's text TOLD by the authors' own Lean function (tested against real Go, not proved from fmt's source: count such statements apart). THE CARD IS WHAT COUNTS. Prove the row's statement (the work); the ties are given (YtknkhnahflmjiaaGreatDoorTie.lean); close each card by the builder's one call (the guide's Derived/Test/ToyasCard.lean, 'card_holds'). Laid BY PROGRAM, IN A SANDBOX (cutbox-door.mjs). By AI agents, Wed Nov 11 2026. No macro, syntax, notation, axiom, sorry.
-/
import Derived.Test.YtknkhnahflmjiaaGreatDoorRows
import GoSem.ClaimSeven
namespace Go.Proofs.YtknkhnahflmjiaaGreatDoor
namespace Rows

/-- THE TIED CARD OF 'loftblocklaw23.LimitsFactors'. -/
def limitsFactorsCard : Claim7 := { stood := { row := limitsFactorsRow, standIns := [], harness := (true, "79f16465fa03350466a0ae0035a7beea183414337ef87c1184d1a0b56f6b6660"), looks := false }, kinds := [], alts := [], laidByText := true, laidKinds := [.data, .data, .data], laidTests := true, laidLooks := .later }
def LimitsFactorsCardSaid : Prop := Claim7.holds Tryz.pinned (.plain (OpenSpec.ofChange limitsFactorsSpec)) limitsFactorsCard

/-- THE TIED CARD OF 'loftblocklaw23.LimitsJust'. -/
def limitsJustCard : Claim7 := { stood := { row := limitsJustRow, standIns := [], harness := (true, "79f16465fa03350466a0ae0035a7beea183414337ef87c1184d1a0b56f6b6660"), looks := false }, kinds := [], alts := [], laidByText := true, laidKinds := [.data, .data, .data], laidTests := true, laidLooks := .later }
def LimitsJustCardSaid : Prop := Claim7.holds Tryz.pinned (.plain (OpenSpec.ofChange limitsJustSpec)) limitsJustCard

/-- THE TIED CARD OF 'loftblocklaw23.LimitsSpares'. -/
def limitsSparesCard : Claim7 := { stood := { row := limitsSparesRow, standIns := [], harness := (true, "79f16465fa03350466a0ae0035a7beea183414337ef87c1184d1a0b56f6b6660"), looks := false }, kinds := [], alts := [], laidByText := true, laidKinds := [.data, .data, .data], laidTests := true, laidLooks := .later }
def LimitsSparesCardSaid : Prop := Claim7.holds Tryz.pinned (.plain (OpenSpec.ofChange limitsSparesSpec)) limitsSparesCard

/-- THE TIED CARD OF 'loftblocklaw23.LimitsChecks'. -/
def limitsChecksCard : Claim7 := { stood := { row := limitsChecksRow, standIns := [], harness := (true, "79f16465fa03350466a0ae0035a7beea183414337ef87c1184d1a0b56f6b6660"), looks := false }, kinds := [], alts := [], laidByText := true, laidKinds := [.data, .data, .data], laidTests := true, laidLooks := .later }
def LimitsChecksCardSaid : Prop := Claim7.holds Tryz.pinned (.plain (OpenSpec.ofChange limitsChecksSpec)) limitsChecksCard

/-- THE TIED CARD OF 'loftblocklaw23.LimitsWeakest'. -/
def limitsWeakestCard : Claim7 := { stood := { row := limitsWeakestRow, standIns := [], harness := (true, "79f16465fa03350466a0ae0035a7beea183414337ef87c1184d1a0b56f6b6660"), looks := false }, kinds := [], alts := [], laidByText := true, laidKinds := [.data, .data, .data], laidTests := true, laidLooks := .later }
def LimitsWeakestCardSaid : Prop := Claim7.holds Tryz.pinned (.plain (OpenSpec.ofChange limitsWeakestSpec)) limitsWeakestCard

/-- THE TIED CARD OF 'loftblocklaw23.LimitsRoofs'. -/
def limitsRoofsCard : Claim7 := { stood := { row := limitsRoofsRow, standIns := [], harness := (true, "79f16465fa03350466a0ae0035a7beea183414337ef87c1184d1a0b56f6b6660"), looks := false }, kinds := [], alts := [], laidByText := true, laidKinds := [.data, .data, .data], laidTests := true, laidLooks := .later }
def LimitsRoofsCardSaid : Prop := Claim7.holds Tryz.pinned (.plain (OpenSpec.ofChange limitsRoofsSpec)) limitsRoofsCard

/-- THE TIED CARD OF 'loftblocklaw23.LimitsGreater'. -/
def limitsGreaterCard : Claim7 := { stood := { row := limitsGreaterRow, standIns := [], harness := (true, "79f16465fa03350466a0ae0035a7beea183414337ef87c1184d1a0b56f6b6660"), looks := false }, kinds := [], alts := [], laidByText := true, laidKinds := [.data, .data, .data], laidTests := true, laidLooks := .later }
def LimitsGreaterCardSaid : Prop := Claim7.holds Tryz.pinned (.plain (OpenSpec.ofChange limitsGreaterSpec)) limitsGreaterCard

/-- THE TIED CARD OF 'loftblocklaw51.VerifySets'. -/
def verifySetsCard : Claim7 := { stood := { row := verifySetsRow, standIns := [], harness := (true, "79f16465fa03350466a0ae0035a7beea183414337ef87c1184d1a0b56f6b6660"), looks := false }, kinds := [], alts := [], laidByText := true, laidKinds := [.data, .data, .data], laidTests := true, laidLooks := .later }
def VerifySetsCardSaid : Prop := Claim7.holds Tryz.pinned (.plain (OpenSpec.ofChange verifySetsSpec)) verifySetsCard

/-- THE SECOND FORM's CARD OF 'loftblocklaw23.LimitsFactors'. -/
def limitsFactorsUptoCard : Claim7 := { stood := { row := limitsFactorsUptoRow, standIns := [], harness := (true, "79f16465fa03350466a0ae0035a7beea183414337ef87c1184d1a0b56f6b6660"), looks := false }, kinds := [], alts := [], laidByText := true, laidKinds := [.data, .data, .data], laidTests := true, laidLooks := .later }
def LimitsFactorsUptoCardSaid : Prop := Claim7.holds Tryz.pinned (.plain (OpenSpec.upto limitsFactorsSpec)) limitsFactorsUptoCard

/-- THE SECOND FORM's CARD OF 'loftblocklaw23.LimitsJust'. -/
def limitsJustUptoCard : Claim7 := { stood := { row := limitsJustUptoRow, standIns := [], harness := (true, "79f16465fa03350466a0ae0035a7beea183414337ef87c1184d1a0b56f6b6660"), looks := false }, kinds := [], alts := [], laidByText := true, laidKinds := [.data, .data, .data], laidTests := true, laidLooks := .later }
def LimitsJustUptoCardSaid : Prop := Claim7.holds Tryz.pinned (.plain (OpenSpec.upto limitsJustSpec)) limitsJustUptoCard

/-- THE SECOND FORM's CARD OF 'loftblocklaw23.LimitsSpares'. -/
def limitsSparesUptoCard : Claim7 := { stood := { row := limitsSparesUptoRow, standIns := [], harness := (true, "79f16465fa03350466a0ae0035a7beea183414337ef87c1184d1a0b56f6b6660"), looks := false }, kinds := [], alts := [], laidByText := true, laidKinds := [.data, .data, .data], laidTests := true, laidLooks := .later }
def LimitsSparesUptoCardSaid : Prop := Claim7.holds Tryz.pinned (.plain (OpenSpec.upto limitsSparesSpec)) limitsSparesUptoCard

/-- THE SECOND FORM's CARD OF 'loftblocklaw23.LimitsChecks'. -/
def limitsChecksUptoCard : Claim7 := { stood := { row := limitsChecksUptoRow, standIns := [], harness := (true, "79f16465fa03350466a0ae0035a7beea183414337ef87c1184d1a0b56f6b6660"), looks := false }, kinds := [], alts := [], laidByText := true, laidKinds := [.data, .data, .data], laidTests := true, laidLooks := .later }
def LimitsChecksUptoCardSaid : Prop := Claim7.holds Tryz.pinned (.plain (OpenSpec.upto limitsChecksSpec)) limitsChecksUptoCard

/-- THE SECOND FORM's CARD OF 'loftblocklaw23.LimitsWeakest'. -/
def limitsWeakestUptoCard : Claim7 := { stood := { row := limitsWeakestUptoRow, standIns := [], harness := (true, "79f16465fa03350466a0ae0035a7beea183414337ef87c1184d1a0b56f6b6660"), looks := false }, kinds := [], alts := [], laidByText := true, laidKinds := [.data, .data, .data], laidTests := true, laidLooks := .later }
def LimitsWeakestUptoCardSaid : Prop := Claim7.holds Tryz.pinned (.plain (OpenSpec.upto limitsWeakestSpec)) limitsWeakestUptoCard

/-- THE SECOND FORM's CARD OF 'loftblocklaw23.LimitsRoofs'. -/
def limitsRoofsUptoCard : Claim7 := { stood := { row := limitsRoofsUptoRow, standIns := [], harness := (true, "79f16465fa03350466a0ae0035a7beea183414337ef87c1184d1a0b56f6b6660"), looks := false }, kinds := [], alts := [], laidByText := true, laidKinds := [.data, .data, .data], laidTests := true, laidLooks := .later }
def LimitsRoofsUptoCardSaid : Prop := Claim7.holds Tryz.pinned (.plain (OpenSpec.upto limitsRoofsSpec)) limitsRoofsUptoCard

/-- THE SECOND FORM's CARD OF 'loftblocklaw23.LimitsGreater'. -/
def limitsGreaterUptoCard : Claim7 := { stood := { row := limitsGreaterUptoRow, standIns := [], harness := (true, "79f16465fa03350466a0ae0035a7beea183414337ef87c1184d1a0b56f6b6660"), looks := false }, kinds := [], alts := [], laidByText := true, laidKinds := [.data, .data, .data], laidTests := true, laidLooks := .later }
def LimitsGreaterUptoCardSaid : Prop := Claim7.holds Tryz.pinned (.plain (OpenSpec.upto limitsGreaterSpec)) limitsGreaterUptoCard

/-- THE SECOND FORM's CARD OF 'loftblocklaw51.VerifySets'. -/
def verifySetsUptoCard : Claim7 := { stood := { row := verifySetsUptoRow, standIns := [], harness := (true, "79f16465fa03350466a0ae0035a7beea183414337ef87c1184d1a0b56f6b6660"), looks := false }, kinds := [], alts := [], laidByText := true, laidKinds := [.data, .data, .data], laidTests := true, laidLooks := .later }
def VerifySetsUptoCardSaid : Prop := Claim7.holds Tryz.pinned (.plain (OpenSpec.upto verifySetsSpec)) verifySetsUptoCard
end Rows
end Go.Proofs.YtknkhnahflmjiaaGreatDoor
