/-
  DERIVED. GIVEN WITH THE SEED: THE CARDS: each row of YtpnongeibpkbhaaDoorRows.lean that lists a variable, with what it lists TIED to the program's text (the seventh form; the later family's looks); each row that meets fmt, with fmt's text TOLD by the authors' own Lean function (tested against real Go, not proved from fmt's source: count such statements apart). THE CARD IS WHAT COUNTS. Prove the row's statement (the work); the ties are given (YtpnongeibpkbhaaDoorTie.lean); close each card by the builder's one call (the guide's Derived/Test/ToyasCard.lean, 'card_holds'). Laid BY PROGRAM, IN A SANDBOX (cutbox-door.mjs). By AI agents, Wed Nov 11 2026. No macro, syntax, notation, axiom, sorry.
-/
import Derived.Test.YtpnongeibpkbhaaDoorRows
import GoSem.ClaimSeven
namespace Go.Proofs.YtpnongeibpkbhaaDoor
namespace Rows

/-- THE TIED CARD OF 'loftblocklaw29.LinesetExtents'. -/
def linesetExtentsCard : Claim7 := { stood := { row := linesetExtentsRow, standIns := [], harness := (true, "3caacf3106b086790a2524648a483f82aa4a6025db05a615f4fad9c9ba2c78e5"), looks := false }, kinds := [], alts := [], laidByText := true, laidKinds := [.data, .data, .data], laidTests := true, laidLooks := .later }
def LinesetExtentsCardSaid : Prop := Claim7.holds Tryd.pinned (.plain (OpenSpec.ofChange linesetExtentsSpec)) linesetExtentsCard

/-- THE SECOND FORM's CARD OF 'loftblocklaw29.LinesetExtents'. -/
def linesetExtentsUptoCard : Claim7 := { stood := { row := linesetExtentsUptoRow, standIns := [], harness := (true, "3caacf3106b086790a2524648a483f82aa4a6025db05a615f4fad9c9ba2c78e5"), looks := false }, kinds := [], alts := [], laidByText := true, laidKinds := [.data, .data, .data], laidTests := true, laidLooks := .later }
def LinesetExtentsUptoCardSaid : Prop := Claim7.holds Tryd.pinned (.plain (OpenSpec.upto linesetExtentsSpec)) linesetExtentsUptoCard
end Rows
end Go.Proofs.YtpnongeibpkbhaaDoor
