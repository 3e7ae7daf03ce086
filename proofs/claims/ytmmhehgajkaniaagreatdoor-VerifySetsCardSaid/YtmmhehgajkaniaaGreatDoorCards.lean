/-
  DERIVED. GIVEN WITH THE SEED: THE CARDS: each row of YtmmhehgajkaniaaGreatDoorRows.lean that lists a variable, with what it lists TIED to the program's text (the seventh form; the later family's looks); each row that meets fmt, with fmt's text TOLD by the authors' own Lean function (tested against real Go, not proved from fmt's source: count such statements apart). THE CARD IS WHAT COUNTS. Prove the row's statement (the work); the ties are given (YtmmhehgajkaniaaGreatDoorTie.lean); close each card by the builder's one call (the guide's Derived/Test/ToyasCard.lean, 'card_holds'). Laid BY PROGRAM, IN A SANDBOX (cutbox-door.mjs). By AI agents, Wed Nov 11 2026. No macro, syntax, notation, axiom, sorry.
-/
import Derived.Test.YtmmhehgajkaniaaGreatDoorRows
import GoSem.ClaimSeven
namespace Go.Proofs.YtmmhehgajkaniaaGreatDoor
namespace Rows

/-- THE TIED CARD OF 'loftblocklaw51.VerifySets'. -/
def verifySetsCard : Claim7 := { stood := { row := verifySetsRow, standIns := [], harness := (true, "cf63b2b7b4b3dc87f9e8be23a10360c3297c89f0dac12d8097d246014bac5464"), looks := false }, kinds := [], alts := [], laidByText := true, laidKinds := [.data, .data, .data], laidTests := true, laidLooks := .later }
def VerifySetsCardSaid : Prop := Claim7.holds Tryz.pinned (.plain (OpenSpec.ofChange verifySetsSpec)) verifySetsCard

/-- THE SECOND FORM's CARD OF 'loftblocklaw51.VerifySets'. -/
def verifySetsUptoCard : Claim7 := { stood := { row := verifySetsUptoRow, standIns := [], harness := (true, "cf63b2b7b4b3dc87f9e8be23a10360c3297c89f0dac12d8097d246014bac5464"), looks := false }, kinds := [], alts := [], laidByText := true, laidKinds := [.data, .data, .data], laidTests := true, laidLooks := .later }
def VerifySetsUptoCardSaid : Prop := Claim7.holds Tryz.pinned (.plain (OpenSpec.upto verifySetsSpec)) verifySetsUptoCard
end Rows
end Go.Proofs.YtmmhehgajkaniaaGreatDoor
