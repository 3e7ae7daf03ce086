/-
  DERIVED. GIVEN WITH THE SEED: THE CARDS: each row of YtpnongeibpkbhaaGreatDoorRows.lean that lists a variable, with what it lists TIED to the program's text (the seventh form; the later family's looks); each row that meets fmt, with fmt's text TOLD by the authors' own Lean function (tested against real Go, not proved from fmt's source: count such statements apart). THE CARD IS WHAT COUNTS. Prove the row's statement (the work); the ties are given (YtpnongeibpkbhaaGreatDoorTie.lean); close each card by the builder's one call (the guide's Derived/Test/ToyasCard.lean, 'card_holds'). Laid BY PROGRAM, IN A SANDBOX (cutbox-door.mjs). By AI agents, Wed Nov 11 2026. No macro, syntax, notation, axiom, sorry.
-/
import Derived.Test.YtpnongeibpkbhaaGreatDoorRows
import GoSem.ClaimSeven
namespace Go.Proofs.YtpnongeibpkbhaaGreatDoor
namespace Rows

/-- THE TIED CARD OF 'loftblocklaw29.LinesetFinds'. -/
def linesetFindsCard : Claim7 := { stood := { row := linesetFindsRow, standIns := [], harness := (true, "3baf4447fd7b0e6ea9db7ef705a89e43ee3a5de5e008140a3a9abcf3f9a472cb"), looks := false }, kinds := [], alts := [], laidByText := true, laidKinds := [.data, .data, .data], laidTests := true, laidLooks := .later }
def LinesetFindsCardSaid : Prop := Claim7.holds Tryz.pinned (.plain (OpenSpec.ofChange linesetFindsSpec)) linesetFindsCard

/-- THE TIED CARD OF 'loftblocklaw29.LinesetEasier'. -/
def linesetEasierCard : Claim7 := { stood := { row := linesetEasierRow, standIns := [], harness := (true, "3baf4447fd7b0e6ea9db7ef705a89e43ee3a5de5e008140a3a9abcf3f9a472cb"), looks := false }, kinds := [], alts := [], laidByText := true, laidKinds := [.data, .data, .data], laidTests := true, laidLooks := .later }
def LinesetEasierCardSaid : Prop := Claim7.holds Tryz.pinned (.plain (OpenSpec.ofChange linesetEasierSpec)) linesetEasierCard

/-- THE TIED CARD OF 'loftblocklaw29.LinesetTotals'. -/
def linesetTotalsCard : Claim7 := { stood := { row := linesetTotalsRow, standIns := [], harness := (true, "3baf4447fd7b0e6ea9db7ef705a89e43ee3a5de5e008140a3a9abcf3f9a472cb"), looks := false }, kinds := [], alts := [], laidByText := true, laidKinds := [.data, .data, .data], laidTests := true, laidLooks := .later }
def LinesetTotalsCardSaid : Prop := Claim7.holds Tryz.pinned (.plain (OpenSpec.ofChange linesetTotalsSpec)) linesetTotalsCard

/-- THE SECOND FORM's CARD OF 'loftblocklaw29.LinesetFinds'. -/
def linesetFindsUptoCard : Claim7 := { stood := { row := linesetFindsUptoRow, standIns := [], harness := (true, "3baf4447fd7b0e6ea9db7ef705a89e43ee3a5de5e008140a3a9abcf3f9a472cb"), looks := false }, kinds := [], alts := [], laidByText := true, laidKinds := [.data, .data, .data], laidTests := true, laidLooks := .later }
def LinesetFindsUptoCardSaid : Prop := Claim7.holds Tryz.pinned (.plain (OpenSpec.upto linesetFindsSpec)) linesetFindsUptoCard

/-- THE SECOND FORM's CARD OF 'loftblocklaw29.LinesetEasier'. -/
def linesetEasierUptoCard : Claim7 := { stood := { row := linesetEasierUptoRow, standIns := [], harness := (true, "3baf4447fd7b0e6ea9db7ef705a89e43ee3a5de5e008140a3a9abcf3f9a472cb"), looks := false }, kinds := [], alts := [], laidByText := true, laidKinds := [.data, .data, .data], laidTests := true, laidLooks := .later }
def LinesetEasierUptoCardSaid : Prop := Claim7.holds Tryz.pinned (.plain (OpenSpec.upto linesetEasierSpec)) linesetEasierUptoCard

/-- THE SECOND FORM's CARD OF 'loftblocklaw29.LinesetTotals'. -/
def linesetTotalsUptoCard : Claim7 := { stood := { row := linesetTotalsUptoRow, standIns := [], harness := (true, "3baf4447fd7b0e6ea9db7ef705a89e43ee3a5de5e008140a3a9abcf3f9a472cb"), looks := false }, kinds := [], alts := [], laidByText := true, laidKinds := [.data, .data, .data], laidTests := true, laidLooks := .later }
def LinesetTotalsUptoCardSaid : Prop := Claim7.holds Tryz.pinned (.plain (OpenSpec.upto linesetTotalsSpec)) linesetTotalsUptoCard
end Rows
end Go.Proofs.YtpnongeibpkbhaaGreatDoor
