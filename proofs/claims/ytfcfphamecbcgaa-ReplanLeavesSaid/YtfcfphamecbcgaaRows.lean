/-
  No cell of these rows narrows 'for every input' (looked for: loops, veiled, ifaces, maps, wideKeys, modest, calm, conditions, laid).
  DERIVED. THE GIVEN ROWS OF THIS SEAT. 6 by the template 'for every input the law returns true; each argument reads behind the call as it read before'; 0 by the template 'total and deterministic' (their statements: YtfcfphamecbcgaaTotals.lean).
  GIVEN WITH THE SEED: the statements are not yours to turn. If you find one false, say at which input.
  Laid BY PROGRAM, IN A SANDBOX (cutbox-rows.mjs): the forced cells as the released guide's own fill.sh prints them over the translation c6db584788e912a9… (all of the seat's roots in one cut). By AI agents, Wed Nov 11 2026. No macro, syntax, notation, axiom, sorry.
-/
import Derived.Test.YtfcfphamecbcgaaChecked
import GoSem.Claim
import GoSem.ClaimJoined
import GoSem.ClaimMapViews
import Derived.JoinedTies
import Derived.KernelRfl
namespace Go.Proofs.Ytfcfphamecbcgaa
/- THE CELL 'sum', in the pinned program and in every row, IS THE sha256 OF THE DUMP (.gsa) THAT YtfcfphamecbcgaaProg.lean LOADS. Nothing in Lean hashes anything: it is a label: what it is worth is what the hold of that sum in a sandbox is worth. -/
noncomputable def Try.pinned : Pinned := { name := "ytfcfphamecbcgaa", sum := "c6db584788e912a903905f799e3c0ca869e4ab6ec06e24f7e0b54505fda32f5e", checked := Try.checked }
namespace Rows
def none {H : Type} : Left H := { results := [], args := [] }

/-- 'loftblocklaw45.ReplanStates': WHATEVER THE INPUT: true; the input reads as it did. -/
def replanStatesSpec : ChangeSpec := { name := "replanStates", fn := fun _ => fun
  | [d1, d2, d3] => { results := [.lit (.bool true)], args := [d1, d2, d3] }
  | _ => none }
def replanStatesRow : OpenClaim := { program := "ytfcfphamecbcgaa", sum := "c6db584788e912a903905f799e3c0ca869e4ab6ec06e24f7e0b54505fda32f5e", func := "loftblock/loftblocklaw45.ReplanStates", spec := "replanStates", unfollowed := true, recurses := true, apart := false }
def ReplanStatesSaid : Prop := replanStatesRow.holds Try.pinned (OpenSpec.ofChange replanStatesSpec)

/-- ITS FALSE NEIGHBOUR: 'it returns false'. Refute it at one input. -/
def replanStatesWrong : ChangeSpec := { name := "replanStates", fn := fun _ => fun
  | [d1, d2, d3] => { results := [.lit (.bool false)], args := [d1, d2, d3] }
  | _ => none }
def ReplanStatesWrongFalsely : Prop := replanStatesRow.holds Try.pinned (OpenSpec.ofChange replanStatesWrong)

/-- 'loftblocklaw45.ReplanStepwise': WHATEVER THE INPUT: true; the input reads as it did. -/
def replanStepwiseSpec : ChangeSpec := { name := "replanStepwise", fn := fun _ => fun
  | [d1, d2, d3, d4] => { results := [.lit (.bool true)], args := [d1, d2, d3, d4] }
  | _ => none }
def replanStepwiseRow : OpenClaim := { program := "ytfcfphamecbcgaa", sum := "c6db584788e912a903905f799e3c0ca869e4ab6ec06e24f7e0b54505fda32f5e", func := "loftblock/loftblocklaw45.ReplanStepwise", spec := "replanStepwise", unfollowed := true, recurses := true, apart := false }
def ReplanStepwiseSaid : Prop := replanStepwiseRow.holds Try.pinned (OpenSpec.ofChange replanStepwiseSpec)

/-- ITS FALSE NEIGHBOUR: 'it returns false'. Refute it at one input. -/
def replanStepwiseWrong : ChangeSpec := { name := "replanStepwise", fn := fun _ => fun
  | [d1, d2, d3, d4] => { results := [.lit (.bool false)], args := [d1, d2, d3, d4] }
  | _ => none }
def ReplanStepwiseWrongFalsely : Prop := replanStepwiseRow.holds Try.pinned (OpenSpec.ofChange replanStepwiseWrong)

/-- 'loftblocklaw45.ReplanKeeps': WHATEVER THE INPUT: true; the input reads as it did. -/
def replanKeepsSpec : ChangeSpec := { name := "replanKeeps", fn := fun _ => fun
  | [d1, d2, d3, d4, d5] => { results := [.lit (.bool true)], args := [d1, d2, d3, d4, d5] }
  | _ => none }
def replanKeepsRow : OpenClaim := { program := "ytfcfphamecbcgaa", sum := "c6db584788e912a903905f799e3c0ca869e4ab6ec06e24f7e0b54505fda32f5e", func := "loftblock/loftblocklaw45.ReplanKeeps", spec := "replanKeeps", unfollowed := true, recurses := true, apart := false }
def ReplanKeepsSaid : Prop := replanKeepsRow.holds Try.pinned (OpenSpec.ofChange replanKeepsSpec)

/-- ITS FALSE NEIGHBOUR: 'it returns false'. Refute it at one input. -/
def replanKeepsWrong : ChangeSpec := { name := "replanKeeps", fn := fun _ => fun
  | [d1, d2, d3, d4, d5] => { results := [.lit (.bool false)], args := [d1, d2, d3, d4, d5] }
  | _ => none }
def ReplanKeepsWrongFalsely : Prop := replanKeepsRow.holds Try.pinned (OpenSpec.ofChange replanKeepsWrong)

/-- 'loftblocklaw45.ReplanBest': WHATEVER THE INPUT: true; the input reads as it did. -/
def replanBestSpec : ChangeSpec := { name := "replanBest", fn := fun _ => fun
  | [d1, d2, d3, d4, d5, d6] => { results := [.lit (.bool true)], args := [d1, d2, d3, d4, d5, d6] }
  | _ => none }
def replanBestRow : OpenClaim := { program := "ytfcfphamecbcgaa", sum := "c6db584788e912a903905f799e3c0ca869e4ab6ec06e24f7e0b54505fda32f5e", func := "loftblock/loftblocklaw45.ReplanBest", spec := "replanBest", unfollowed := true, recurses := true, apart := false }
def ReplanBestSaid : Prop := replanBestRow.holds Try.pinned (OpenSpec.ofChange replanBestSpec)

/-- ITS FALSE NEIGHBOUR: 'it returns false'. Refute it at one input. -/
def replanBestWrong : ChangeSpec := { name := "replanBest", fn := fun _ => fun
  | [d1, d2, d3, d4, d5, d6] => { results := [.lit (.bool false)], args := [d1, d2, d3, d4, d5, d6] }
  | _ => none }
def ReplanBestWrongFalsely : Prop := replanBestRow.holds Try.pinned (OpenSpec.ofChange replanBestWrong)

/-- 'loftblocklaw45.ReplanWithout': WHATEVER THE INPUT: true; the input reads as it did. -/
def replanWithoutSpec : ChangeSpec := { name := "replanWithout", fn := fun _ => fun
  | [d1, d2] => { results := [.lit (.bool true)], args := [d1, d2] }
  | _ => none }
def replanWithoutRow : OpenClaim := { program := "ytfcfphamecbcgaa", sum := "c6db584788e912a903905f799e3c0ca869e4ab6ec06e24f7e0b54505fda32f5e", func := "loftblock/loftblocklaw45.ReplanWithout", spec := "replanWithout", unfollowed := true, recurses := true, apart := false }
def ReplanWithoutSaid : Prop := replanWithoutRow.holds Try.pinned (OpenSpec.ofChange replanWithoutSpec)

/-- ITS FALSE NEIGHBOUR: 'it returns false'. Refute it at one input. -/
def replanWithoutWrong : ChangeSpec := { name := "replanWithout", fn := fun _ => fun
  | [d1, d2] => { results := [.lit (.bool false)], args := [d1, d2] }
  | _ => none }
def ReplanWithoutWrongFalsely : Prop := replanWithoutRow.holds Try.pinned (OpenSpec.ofChange replanWithoutWrong)

/-- 'loftblocklaw45.ReplanLeaves': WHATEVER THE INPUT: true; the input reads as it did. -/
def replanLeavesSpec : ChangeSpec := { name := "replanLeaves", fn := fun _ => fun
  | [d1, d2, d3, d4] => { results := [.lit (.bool true)], args := [d1, d2, d3, d4] }
  | _ => none }
def replanLeavesRow : OpenClaim := { program := "ytfcfphamecbcgaa", sum := "c6db584788e912a903905f799e3c0ca869e4ab6ec06e24f7e0b54505fda32f5e", func := "loftblock/loftblocklaw45.ReplanLeaves", spec := "replanLeaves", unfollowed := true, recurses := true, apart := false }
def ReplanLeavesSaid : Prop := replanLeavesRow.holds Try.pinned (OpenSpec.ofChange replanLeavesSpec)

/-- ITS FALSE NEIGHBOUR: 'it returns false'. Refute it at one input. -/
def replanLeavesWrong : ChangeSpec := { name := "replanLeaves", fn := fun _ => fun
  | [d1, d2, d3, d4] => { results := [.lit (.bool false)], args := [d1, d2, d3, d4] }
  | _ => none }
def ReplanLeavesWrongFalsely : Prop := replanLeavesRow.holds Try.pinned (OpenSpec.ofChange replanLeavesWrong)

/- THE SECOND FORM. 'bulk': how many values and letters a reading holds, each counted each time it is reached (what is shared counts as often as it is met; a slice's spare places count too). A statement '..UptoSaid' is the law's where the arguments, and the package variables that the reading takes, are together of bulk at most 1048576: NARROWER than '..Said'. Prove '..Said' where nothing that the law and all that it calls make is longer than what came in: it says more and counts as full. Else prove '..UptoSaid'. A law counts once. -/
mutual
def uptoBulk {H : Type} : DataW H → Nat
  | .lit (.string bytes) => bytes.length + 1
  | .lit _ => 1
  | .nil => 1
  | .ptr d => uptoBulk d + 1
  | .slice elems spare => uptoBulkAll elems + uptoBulkAll spare + 1
  | .agg parts => uptoBulkAll parts + 1
  | .iface _ d => uptoBulk d + 1
  | .map entries => uptoBulkEntries entries + 1
  | .held _ => 1
def uptoBulkAll {H : Type} : List (DataW H) → Nat
  | [] => 0
  | d :: r => uptoBulk d + uptoBulkAll r
def uptoBulkEntries {H : Type} : List (Lit × DataW H) → Nat
  | [] => 0
  | x :: r => uptoBulkEntry x + uptoBulkEntries r
def uptoBulkEntry {H : Type} : Lit × DataW H → Nat
  | (.string bytes, d) => bytes.length + uptoBulk d + 1
  | (_, d) => uptoBulk d + 1
 end
def uptoSmall : (H : Type) → List (DataW H) → Bool := fun _ ds => decide (uptoBulkAll ds ≤ 1048576)
def OpenSpec.upto (s : _root_.Go.ChangeSpec) : _root_.Go.OpenSpec := { _root_.Go.OpenSpec.ofChange s with cond := some uptoSmall }

/-- 'loftblocklaw45.ReplanStates', WHERE WHAT IT READS IS OF BULK AT MOST 1048576: true; the input reads as it did. -/
def replanStatesUptoRow : OpenClaim := { program := "ytfcfphamecbcgaa", sum := "c6db584788e912a903905f799e3c0ca869e4ab6ec06e24f7e0b54505fda32f5e", func := "loftblock/loftblocklaw45.ReplanStates", spec := "replanStates", unfollowed := true, recurses := true, apart := false, narrowed := true }
def ReplanStatesUptoSaid : Prop := replanStatesUptoRow.holds Try.pinned (OpenSpec.upto replanStatesSpec)

/-- 'loftblocklaw45.ReplanStepwise', WHERE WHAT IT READS IS OF BULK AT MOST 1048576: true; the input reads as it did. -/
def replanStepwiseUptoRow : OpenClaim := { program := "ytfcfphamecbcgaa", sum := "c6db584788e912a903905f799e3c0ca869e4ab6ec06e24f7e0b54505fda32f5e", func := "loftblock/loftblocklaw45.ReplanStepwise", spec := "replanStepwise", unfollowed := true, recurses := true, apart := false, narrowed := true }
def ReplanStepwiseUptoSaid : Prop := replanStepwiseUptoRow.holds Try.pinned (OpenSpec.upto replanStepwiseSpec)

/-- 'loftblocklaw45.ReplanKeeps', WHERE WHAT IT READS IS OF BULK AT MOST 1048576: true; the input reads as it did. -/
def replanKeepsUptoRow : OpenClaim := { program := "ytfcfphamecbcgaa", sum := "c6db584788e912a903905f799e3c0ca869e4ab6ec06e24f7e0b54505fda32f5e", func := "loftblock/loftblocklaw45.ReplanKeeps", spec := "replanKeeps", unfollowed := true, recurses := true, apart := false, narrowed := true }
def ReplanKeepsUptoSaid : Prop := replanKeepsUptoRow.holds Try.pinned (OpenSpec.upto replanKeepsSpec)

/-- 'loftblocklaw45.ReplanBest', WHERE WHAT IT READS IS OF BULK AT MOST 1048576: true; the input reads as it did. -/
def replanBestUptoRow : OpenClaim := { program := "ytfcfphamecbcgaa", sum := "c6db584788e912a903905f799e3c0ca869e4ab6ec06e24f7e0b54505fda32f5e", func := "loftblock/loftblocklaw45.ReplanBest", spec := "replanBest", unfollowed := true, recurses := true, apart := false, narrowed := true }
def ReplanBestUptoSaid : Prop := replanBestUptoRow.holds Try.pinned (OpenSpec.upto replanBestSpec)

/-- 'loftblocklaw45.ReplanWithout', WHERE WHAT IT READS IS OF BULK AT MOST 1048576: true; the input reads as it did. -/
def replanWithoutUptoRow : OpenClaim := { program := "ytfcfphamecbcgaa", sum := "c6db584788e912a903905f799e3c0ca869e4ab6ec06e24f7e0b54505fda32f5e", func := "loftblock/loftblocklaw45.ReplanWithout", spec := "replanWithout", unfollowed := true, recurses := true, apart := false, narrowed := true }
def ReplanWithoutUptoSaid : Prop := replanWithoutUptoRow.holds Try.pinned (OpenSpec.upto replanWithoutSpec)

/-- 'loftblocklaw45.ReplanLeaves', WHERE WHAT IT READS IS OF BULK AT MOST 1048576: true; the input reads as it did. -/
def replanLeavesUptoRow : OpenClaim := { program := "ytfcfphamecbcgaa", sum := "c6db584788e912a903905f799e3c0ca869e4ab6ec06e24f7e0b54505fda32f5e", func := "loftblock/loftblocklaw45.ReplanLeaves", spec := "replanLeaves", unfollowed := true, recurses := true, apart := false, narrowed := true }
def ReplanLeavesUptoSaid : Prop := replanLeavesUptoRow.holds Try.pinned (OpenSpec.upto replanLeavesSpec)

end Rows
end Go.Proofs.Ytfcfphamecbcgaa
