/-
  No cell of these rows narrows 'for every input' (looked for: loops, veiled, ifaces, maps, wideKeys, modest, calm, conditions, laid).
  DERIVED. THE GIVEN ROWS OF THIS SEAT. 13 by the template 'for every input the law returns true; each argument reads behind the call as it read before'; 0 by the template 'total and deterministic' (their statements: YtcjejcbikgcnbaaTotals.lean).
  GIVEN WITH THE SEED: the statements are not yours to turn. If you find one false, say at which input.
  Laid BY PROGRAM, IN A SANDBOX (cutbox-rows.mjs): the forced cells as the released guide's own fill.sh prints them over the translation 062a1a8b55c81827… (all of the seat's roots in one cut). By AI agents, Wed Nov 11 2026. No macro, syntax, notation, axiom, sorry.
-/
import Derived.Test.YtcjejcbikgcnbaaChecked
import GoSem.Claim
import GoSem.ClaimJoined
import GoSem.ClaimMapViews
import Derived.JoinedTies
import Derived.KernelRfl
namespace Go.Proofs.Ytcjejcbikgcnbaa
/- THE CELL 'sum', in the pinned program and in every row, IS THE sha256 OF THE DUMP (.gsa) THAT YtcjejcbikgcnbaaProg.lean LOADS. Nothing in Lean hashes anything: it is a label: what it is worth is what the hold of that sum in a sandbox is worth. -/
noncomputable def Try.pinned : Pinned := { name := "ytcjejcbikgcnbaa", sum := "062a1a8b55c81827369869d5265926064fd41e5aaec90b88afdb86a15cfc2fd8", checked := Try.checked }
namespace Rows
def none {H : Type} : Left H := { results := [], args := [] }

/-- 'loftblocklaw44.BoundsPath': WHATEVER THE INPUT: true; the input reads as it did. -/
def boundsPathSpec : ChangeSpec := { name := "boundsPath", fn := fun _ => fun
  | [d] => { results := [.lit (.bool true)], args := [d] }
  | _ => none }
def boundsPathRow : OpenClaim := { program := "ytcjejcbikgcnbaa", sum := "062a1a8b55c81827369869d5265926064fd41e5aaec90b88afdb86a15cfc2fd8", func := "loftblock/loftblocklaw44.BoundsPath", spec := "boundsPath", unfollowed := true, recurses := true, apart := false }
def BoundsPathSaid : Prop := boundsPathRow.holds Try.pinned (OpenSpec.ofChange boundsPathSpec)

/-- ITS FALSE NEIGHBOUR: 'it returns false'. Refute it at one input. -/
def boundsPathWrong : ChangeSpec := { name := "boundsPath", fn := fun _ => fun
  | [d] => { results := [.lit (.bool false)], args := [d] }
  | _ => none }
def BoundsPathWrongFalsely : Prop := boundsPathRow.holds Try.pinned (OpenSpec.ofChange boundsPathWrong)

/-- 'loftblocklaw44.BoundsBest': WHATEVER THE INPUT: true; the input reads as it did. -/
def boundsBestSpec : ChangeSpec := { name := "boundsBest", fn := fun _ => fun
  | [d1, d2, d3] => { results := [.lit (.bool true)], args := [d1, d2, d3] }
  | _ => none }
def boundsBestRow : OpenClaim := { program := "ytcjejcbikgcnbaa", sum := "062a1a8b55c81827369869d5265926064fd41e5aaec90b88afdb86a15cfc2fd8", func := "loftblock/loftblocklaw44.BoundsBest", spec := "boundsBest", unfollowed := true, recurses := true, apart := false }
def BoundsBestSaid : Prop := boundsBestRow.holds Try.pinned (OpenSpec.ofChange boundsBestSpec)

/-- ITS FALSE NEIGHBOUR: 'it returns false'. Refute it at one input. -/
def boundsBestWrong : ChangeSpec := { name := "boundsBest", fn := fun _ => fun
  | [d1, d2, d3] => { results := [.lit (.bool false)], args := [d1, d2, d3] }
  | _ => none }
def BoundsBestWrongFalsely : Prop := boundsBestRow.holds Try.pinned (OpenSpec.ofChange boundsBestWrong)

/-- 'loftblocklaw44.BoundsMore': WHATEVER THE INPUT: true; the input reads as it did. -/
def boundsMoreSpec : ChangeSpec := { name := "boundsMore", fn := fun _ => fun
  | [d1, d2, d3, d4, d5] => { results := [.lit (.bool true)], args := [d1, d2, d3, d4, d5] }
  | _ => none }
def boundsMoreRow : OpenClaim := { program := "ytcjejcbikgcnbaa", sum := "062a1a8b55c81827369869d5265926064fd41e5aaec90b88afdb86a15cfc2fd8", func := "loftblock/loftblocklaw44.BoundsMore", spec := "boundsMore", unfollowed := true, recurses := true, apart := false }
def BoundsMoreSaid : Prop := boundsMoreRow.holds Try.pinned (OpenSpec.ofChange boundsMoreSpec)

/-- ITS FALSE NEIGHBOUR: 'it returns false'. Refute it at one input. -/
def boundsMoreWrong : ChangeSpec := { name := "boundsMore", fn := fun _ => fun
  | [d1, d2, d3, d4, d5] => { results := [.lit (.bool false)], args := [d1, d2, d3, d4, d5] }
  | _ => none }
def BoundsMoreWrongFalsely : Prop := boundsMoreRow.holds Try.pinned (OpenSpec.ofChange boundsMoreWrong)

/-- 'loftblocklaw44.BoundsGaps': WHATEVER THE INPUT: true; the input reads as it did. -/
def boundsGapsSpec : ChangeSpec := { name := "boundsGaps", fn := fun _ => fun
  | [d1, d2, d3, d4, d5] => { results := [.lit (.bool true)], args := [d1, d2, d3, d4, d5] }
  | _ => none }
def boundsGapsRow : OpenClaim := { program := "ytcjejcbikgcnbaa", sum := "062a1a8b55c81827369869d5265926064fd41e5aaec90b88afdb86a15cfc2fd8", func := "loftblock/loftblocklaw44.BoundsGaps", spec := "boundsGaps", unfollowed := true, recurses := true, apart := false }
def BoundsGapsSaid : Prop := boundsGapsRow.holds Try.pinned (OpenSpec.ofChange boundsGapsSpec)

/-- ITS FALSE NEIGHBOUR: 'it returns false'. Refute it at one input. -/
def boundsGapsWrong : ChangeSpec := { name := "boundsGaps", fn := fun _ => fun
  | [d1, d2, d3, d4, d5] => { results := [.lit (.bool false)], args := [d1, d2, d3, d4, d5] }
  | _ => none }
def BoundsGapsWrongFalsely : Prop := boundsGapsRow.holds Try.pinned (OpenSpec.ofChange boundsGapsWrong)

/-- 'loftblocklaw43.ScheduleLeast': WHATEVER THE INPUT: true; the input reads as it did. -/
def scheduleLeastSpec : ChangeSpec := { name := "scheduleLeast", fn := fun _ => fun
  | [d1, d2, d3] => { results := [.lit (.bool true)], args := [d1, d2, d3] }
  | _ => none }
def scheduleLeastRow : OpenClaim := { program := "ytcjejcbikgcnbaa", sum := "062a1a8b55c81827369869d5265926064fd41e5aaec90b88afdb86a15cfc2fd8", func := "loftblock/loftblocklaw43.ScheduleLeast", spec := "scheduleLeast", unfollowed := true, recurses := true, apart := false }
def ScheduleLeastSaid : Prop := scheduleLeastRow.holds Try.pinned (OpenSpec.ofChange scheduleLeastSpec)

/-- ITS FALSE NEIGHBOUR: 'it returns false'. Refute it at one input. -/
def scheduleLeastWrong : ChangeSpec := { name := "scheduleLeast", fn := fun _ => fun
  | [d1, d2, d3] => { results := [.lit (.bool false)], args := [d1, d2, d3] }
  | _ => none }
def ScheduleLeastWrongFalsely : Prop := scheduleLeastRow.holds Try.pinned (OpenSpec.ofChange scheduleLeastWrong)

/-- 'loftblocklaw43.ScheduleChains': WHATEVER THE INPUT: true; the input reads as it did. -/
def scheduleChainsSpec : ChangeSpec := { name := "scheduleChains", fn := fun _ => fun
  | [d1, d2, d3] => { results := [.lit (.bool true)], args := [d1, d2, d3] }
  | _ => none }
def scheduleChainsRow : OpenClaim := { program := "ytcjejcbikgcnbaa", sum := "062a1a8b55c81827369869d5265926064fd41e5aaec90b88afdb86a15cfc2fd8", func := "loftblock/loftblocklaw43.ScheduleChains", spec := "scheduleChains", unfollowed := true, recurses := true, apart := false }
def ScheduleChainsSaid : Prop := scheduleChainsRow.holds Try.pinned (OpenSpec.ofChange scheduleChainsSpec)

/-- ITS FALSE NEIGHBOUR: 'it returns false'. Refute it at one input. -/
def scheduleChainsWrong : ChangeSpec := { name := "scheduleChains", fn := fun _ => fun
  | [d1, d2, d3] => { results := [.lit (.bool false)], args := [d1, d2, d3] }
  | _ => none }
def ScheduleChainsWrongFalsely : Prop := scheduleChainsRow.holds Try.pinned (OpenSpec.ofChange scheduleChainsWrong)

/-- 'loftblocklaw43.ScheduleMore': WHATEVER THE INPUT: true; the input reads as it did. -/
def scheduleMoreSpec : ChangeSpec := { name := "scheduleMore", fn := fun _ => fun
  | [d1, d2, d3, d4, d5, d6] => { results := [.lit (.bool true)], args := [d1, d2, d3, d4, d5, d6] }
  | _ => none }
def scheduleMoreRow : OpenClaim := { program := "ytcjejcbikgcnbaa", sum := "062a1a8b55c81827369869d5265926064fd41e5aaec90b88afdb86a15cfc2fd8", func := "loftblock/loftblocklaw43.ScheduleMore", spec := "scheduleMore", unfollowed := true, recurses := true, apart := false }
def ScheduleMoreSaid : Prop := scheduleMoreRow.holds Try.pinned (OpenSpec.ofChange scheduleMoreSpec)

/-- ITS FALSE NEIGHBOUR: 'it returns false'. Refute it at one input. -/
def scheduleMoreWrong : ChangeSpec := { name := "scheduleMore", fn := fun _ => fun
  | [d1, d2, d3, d4, d5, d6] => { results := [.lit (.bool false)], args := [d1, d2, d3, d4, d5, d6] }
  | _ => none }
def ScheduleMoreWrongFalsely : Prop := scheduleMoreRow.holds Try.pinned (OpenSpec.ofChange scheduleMoreWrong)

/-- 'loftblocklaw43.ScheduleForms': WHATEVER THE INPUT: true; the input reads as it did. -/
def scheduleFormsSpec : ChangeSpec := { name := "scheduleForms", fn := fun _ => fun
  | [d1, d2, d3, d4] => { results := [.lit (.bool true)], args := [d1, d2, d3, d4] }
  | _ => none }
def scheduleFormsRow : OpenClaim := { program := "ytcjejcbikgcnbaa", sum := "062a1a8b55c81827369869d5265926064fd41e5aaec90b88afdb86a15cfc2fd8", func := "loftblock/loftblocklaw43.ScheduleForms", spec := "scheduleForms", unfollowed := true, recurses := true, apart := false }
def ScheduleFormsSaid : Prop := scheduleFormsRow.holds Try.pinned (OpenSpec.ofChange scheduleFormsSpec)

/-- ITS FALSE NEIGHBOUR: 'it returns false'. Refute it at one input. -/
def scheduleFormsWrong : ChangeSpec := { name := "scheduleForms", fn := fun _ => fun
  | [d1, d2, d3, d4] => { results := [.lit (.bool false)], args := [d1, d2, d3, d4] }
  | _ => none }
def ScheduleFormsWrongFalsely : Prop := scheduleFormsRow.holds Try.pinned (OpenSpec.ofChange scheduleFormsWrong)

/-- 'loftblocklaw43.ScheduleShortest': WHATEVER THE INPUT: true; the input reads as it did. -/
def scheduleShortestSpec : ChangeSpec := { name := "scheduleShortest", fn := fun _ => fun
  | [d1, d2, d3, d4] => { results := [.lit (.bool true)], args := [d1, d2, d3, d4] }
  | _ => none }
def scheduleShortestRow : OpenClaim := { program := "ytcjejcbikgcnbaa", sum := "062a1a8b55c81827369869d5265926064fd41e5aaec90b88afdb86a15cfc2fd8", func := "loftblock/loftblocklaw43.ScheduleShortest", spec := "scheduleShortest", unfollowed := true, recurses := true, apart := false }
def ScheduleShortestSaid : Prop := scheduleShortestRow.holds Try.pinned (OpenSpec.ofChange scheduleShortestSpec)

/-- ITS FALSE NEIGHBOUR: 'it returns false'. Refute it at one input. -/
def scheduleShortestWrong : ChangeSpec := { name := "scheduleShortest", fn := fun _ => fun
  | [d1, d2, d3, d4] => { results := [.lit (.bool false)], args := [d1, d2, d3, d4] }
  | _ => none }
def ScheduleShortestWrongFalsely : Prop := scheduleShortestRow.holds Try.pinned (OpenSpec.ofChange scheduleShortestWrong)

/-- 'loftblocklaw43.ScheduleLists': WHATEVER THE INPUT: true; the input reads as it did. -/
def scheduleListsSpec : ChangeSpec := { name := "scheduleLists", fn := fun _ => fun
  | [d1, d2, d3, d4] => { results := [.lit (.bool true)], args := [d1, d2, d3, d4] }
  | _ => none }
def scheduleListsRow : OpenClaim := { program := "ytcjejcbikgcnbaa", sum := "062a1a8b55c81827369869d5265926064fd41e5aaec90b88afdb86a15cfc2fd8", func := "loftblock/loftblocklaw43.ScheduleLists", spec := "scheduleLists", unfollowed := true, recurses := true, apart := false }
def ScheduleListsSaid : Prop := scheduleListsRow.holds Try.pinned (OpenSpec.ofChange scheduleListsSpec)

/-- ITS FALSE NEIGHBOUR: 'it returns false'. Refute it at one input. -/
def scheduleListsWrong : ChangeSpec := { name := "scheduleLists", fn := fun _ => fun
  | [d1, d2, d3, d4] => { results := [.lit (.bool false)], args := [d1, d2, d3, d4] }
  | _ => none }
def ScheduleListsWrongFalsely : Prop := scheduleListsRow.holds Try.pinned (OpenSpec.ofChange scheduleListsWrong)

/-- 'loftblocklaw44.BoundsCliques': WHATEVER THE INPUT: true; the input reads as it did. -/
def boundsCliquesSpec : ChangeSpec := { name := "boundsCliques", fn := fun _ => fun
  | [d1, d2, d3] => { results := [.lit (.bool true)], args := [d1, d2, d3] }
  | _ => none }
def boundsCliquesRow : OpenClaim := { program := "ytcjejcbikgcnbaa", sum := "062a1a8b55c81827369869d5265926064fd41e5aaec90b88afdb86a15cfc2fd8", func := "loftblock/loftblocklaw44.BoundsCliques", spec := "boundsCliques", unfollowed := true, recurses := true, apart := false }
def BoundsCliquesSaid : Prop := boundsCliquesRow.holds Try.pinned (OpenSpec.ofChange boundsCliquesSpec)

/-- ITS FALSE NEIGHBOUR: 'it returns false'. Refute it at one input. -/
def boundsCliquesWrong : ChangeSpec := { name := "boundsCliques", fn := fun _ => fun
  | [d1, d2, d3] => { results := [.lit (.bool false)], args := [d1, d2, d3] }
  | _ => none }
def BoundsCliquesWrongFalsely : Prop := boundsCliquesRow.holds Try.pinned (OpenSpec.ofChange boundsCliquesWrong)

/-- 'loftblocklaw43.ScheduleKeeps': WHATEVER THE INPUT: true; the input reads as it did. -/
def scheduleKeepsSpec : ChangeSpec := { name := "scheduleKeeps", fn := fun _ => fun
  | [d1, d2, d3, d4, d5] => { results := [.lit (.bool true)], args := [d1, d2, d3, d4, d5] }
  | _ => none }
def scheduleKeepsRow : OpenClaim := { program := "ytcjejcbikgcnbaa", sum := "062a1a8b55c81827369869d5265926064fd41e5aaec90b88afdb86a15cfc2fd8", func := "loftblock/loftblocklaw43.ScheduleKeeps", spec := "scheduleKeeps", unfollowed := true, recurses := true, apart := false }
def ScheduleKeepsSaid : Prop := scheduleKeepsRow.holds Try.pinned (OpenSpec.ofChange scheduleKeepsSpec)

/-- ITS FALSE NEIGHBOUR: 'it returns false'. Refute it at one input. -/
def scheduleKeepsWrong : ChangeSpec := { name := "scheduleKeeps", fn := fun _ => fun
  | [d1, d2, d3, d4, d5] => { results := [.lit (.bool false)], args := [d1, d2, d3, d4, d5] }
  | _ => none }
def ScheduleKeepsWrongFalsely : Prop := scheduleKeepsRow.holds Try.pinned (OpenSpec.ofChange scheduleKeepsWrong)

/-- 'loftblocklaw44.BoundsHolds': WHATEVER THE INPUT: true; the input reads as it did. -/
def boundsHoldsSpec : ChangeSpec := { name := "boundsHolds", fn := fun _ => fun
  | [d1, d2, d3, d4] => { results := [.lit (.bool true)], args := [d1, d2, d3, d4] }
  | _ => none }
def boundsHoldsRow : OpenClaim := { program := "ytcjejcbikgcnbaa", sum := "062a1a8b55c81827369869d5265926064fd41e5aaec90b88afdb86a15cfc2fd8", func := "loftblock/loftblocklaw44.BoundsHolds", spec := "boundsHolds", unfollowed := true, recurses := true, apart := false }
def BoundsHoldsSaid : Prop := boundsHoldsRow.holds Try.pinned (OpenSpec.ofChange boundsHoldsSpec)

/-- ITS FALSE NEIGHBOUR: 'it returns false'. Refute it at one input. -/
def boundsHoldsWrong : ChangeSpec := { name := "boundsHolds", fn := fun _ => fun
  | [d1, d2, d3, d4] => { results := [.lit (.bool false)], args := [d1, d2, d3, d4] }
  | _ => none }
def BoundsHoldsWrongFalsely : Prop := boundsHoldsRow.holds Try.pinned (OpenSpec.ofChange boundsHoldsWrong)

/- THE SECOND FORM. 'bulk': how many values and letters a reading holds, each counted each time it is reached (what is shared counts as often as it is met; a slice's spare places count too). A statement '..UptoSaid' is the law's where the arguments, and the package variables that the reading takes, are together of bulk at most 1048576: NARROWER than '..Said'. Prove '..Said' where nothing that the law and all that it calls make is longer than what came in: it says more and counts as full. Else prove '..UptoSaid'. A law counts once. -/
mutual
def uptoBulk {H : Type} : DataW H → Nat
  | .lit (.string bytes) => bytes.length + 1
  | .lit _ => 1
  | .nil => 1
  | .ptr d => uptoBulk d + 1
  | .slice elems spare => uptoBulkAll elems + uptoBulkAll spare + 1
  | .agg parts => uptoBulkAll parts + 1
  | .iface _ d => uptoBulk d + 1
  | .map entries => uptoBulkEntries entries + 1
  | .held _ => 1
def uptoBulkAll {H : Type} : List (DataW H) → Nat
  | [] => 0
  | d :: r => uptoBulk d + uptoBulkAll r
def uptoBulkEntries {H : Type} : List (Lit × DataW H) → Nat
  | [] => 0
  | x :: r => uptoBulkEntry x + uptoBulkEntries r
def uptoBulkEntry {H : Type} : Lit × DataW H → Nat
  | (.string bytes, d) => bytes.length + uptoBulk d + 1
  | (_, d) => uptoBulk d + 1
 end
def uptoSmall : (H : Type) → List (DataW H) → Bool := fun _ ds => decide (uptoBulkAll ds ≤ 1048576)
def OpenSpec.upto (s : _root_.Go.ChangeSpec) : _root_.Go.OpenSpec := { _root_.Go.OpenSpec.ofChange s with cond := some uptoSmall }

/-- 'loftblocklaw44.BoundsPath', WHERE WHAT IT READS IS OF BULK AT MOST 1048576: true; the input reads as it did. -/
def boundsPathUptoRow : OpenClaim := { program := "ytcjejcbikgcnbaa", sum := "062a1a8b55c81827369869d5265926064fd41e5aaec90b88afdb86a15cfc2fd8", func := "loftblock/loftblocklaw44.BoundsPath", spec := "boundsPath", unfollowed := true, recurses := true, apart := false, narrowed := true }
def BoundsPathUptoSaid : Prop := boundsPathUptoRow.holds Try.pinned (OpenSpec.upto boundsPathSpec)

/-- 'loftblocklaw44.BoundsBest', WHERE WHAT IT READS IS OF BULK AT MOST 1048576: true; the input reads as it did. -/
def boundsBestUptoRow : OpenClaim := { program := "ytcjejcbikgcnbaa", sum := "062a1a8b55c81827369869d5265926064fd41e5aaec90b88afdb86a15cfc2fd8", func := "loftblock/loftblocklaw44.BoundsBest", spec := "boundsBest", unfollowed := true, recurses := true, apart := false, narrowed := true }
def BoundsBestUptoSaid : Prop := boundsBestUptoRow.holds Try.pinned (OpenSpec.upto boundsBestSpec)

/-- 'loftblocklaw44.BoundsMore', WHERE WHAT IT READS IS OF BULK AT MOST 1048576: true; the input reads as it did. -/
def boundsMoreUptoRow : OpenClaim := { program := "ytcjejcbikgcnbaa", sum := "062a1a8b55c81827369869d5265926064fd41e5aaec90b88afdb86a15cfc2fd8", func := "loftblock/loftblocklaw44.BoundsMore", spec := "boundsMore", unfollowed := true, recurses := true, apart := false, narrowed := true }
def BoundsMoreUptoSaid : Prop := boundsMoreUptoRow.holds Try.pinned (OpenSpec.upto boundsMoreSpec)

/-- 'loftblocklaw44.BoundsGaps', WHERE WHAT IT READS IS OF BULK AT MOST 1048576: true; the input reads as it did. -/
def boundsGapsUptoRow : OpenClaim := { program := "ytcjejcbikgcnbaa", sum := "062a1a8b55c81827369869d5265926064fd41e5aaec90b88afdb86a15cfc2fd8", func := "loftblock/loftblocklaw44.BoundsGaps", spec := "boundsGaps", unfollowed := true, recurses := true, apart := false, narrowed := true }
def BoundsGapsUptoSaid : Prop := boundsGapsUptoRow.holds Try.pinned (OpenSpec.upto boundsGapsSpec)

/-- 'loftblocklaw43.ScheduleLeast', WHERE WHAT IT READS IS OF BULK AT MOST 1048576: true; the input reads as it did. -/
def scheduleLeastUptoRow : OpenClaim := { program := "ytcjejcbikgcnbaa", sum := "062a1a8b55c81827369869d5265926064fd41e5aaec90b88afdb86a15cfc2fd8", func := "loftblock/loftblocklaw43.ScheduleLeast", spec := "scheduleLeast", unfollowed := true, recurses := true, apart := false, narrowed := true }
def ScheduleLeastUptoSaid : Prop := scheduleLeastUptoRow.holds Try.pinned (OpenSpec.upto scheduleLeastSpec)

/-- 'loftblocklaw43.ScheduleChains', WHERE WHAT IT READS IS OF BULK AT MOST 1048576: true; the input reads as it did. -/
def scheduleChainsUptoRow : OpenClaim := { program := "ytcjejcbikgcnbaa", sum := "062a1a8b55c81827369869d5265926064fd41e5aaec90b88afdb86a15cfc2fd8", func := "loftblock/loftblocklaw43.ScheduleChains", spec := "scheduleChains", unfollowed := true, recurses := true, apart := false, narrowed := true }
def ScheduleChainsUptoSaid : Prop := scheduleChainsUptoRow.holds Try.pinned (OpenSpec.upto scheduleChainsSpec)

/-- 'loftblocklaw43.ScheduleMore', WHERE WHAT IT READS IS OF BULK AT MOST 1048576: true; the input reads as it did. -/
def scheduleMoreUptoRow : OpenClaim := { program := "ytcjejcbikgcnbaa", sum := "062a1a8b55c81827369869d5265926064fd41e5aaec90b88afdb86a15cfc2fd8", func := "loftblock/loftblocklaw43.ScheduleMore", spec := "scheduleMore", unfollowed := true, recurses := true, apart := false, narrowed := true }
def ScheduleMoreUptoSaid : Prop := scheduleMoreUptoRow.holds Try.pinned (OpenSpec.upto scheduleMoreSpec)

/-- 'loftblocklaw43.ScheduleForms', WHERE WHAT IT READS IS OF BULK AT MOST 1048576: true; the input reads as it did. -/
def scheduleFormsUptoRow : OpenClaim := { program := "ytcjejcbikgcnbaa", sum := "062a1a8b55c81827369869d5265926064fd41e5aaec90b88afdb86a15cfc2fd8", func := "loftblock/loftblocklaw43.ScheduleForms", spec := "scheduleForms", unfollowed := true, recurses := true, apart := false, narrowed := true }
def ScheduleFormsUptoSaid : Prop := scheduleFormsUptoRow.holds Try.pinned (OpenSpec.upto scheduleFormsSpec)

/-- 'loftblocklaw43.ScheduleShortest', WHERE WHAT IT READS IS OF BULK AT MOST 1048576: true; the input reads as it did. -/
def scheduleShortestUptoRow : OpenClaim := { program := "ytcjejcbikgcnbaa", sum := "062a1a8b55c81827369869d5265926064fd41e5aaec90b88afdb86a15cfc2fd8", func := "loftblock/loftblocklaw43.ScheduleShortest", spec := "scheduleShortest", unfollowed := true, recurses := true, apart := false, narrowed := true }
def ScheduleShortestUptoSaid : Prop := scheduleShortestUptoRow.holds Try.pinned (OpenSpec.upto scheduleShortestSpec)

/-- 'loftblocklaw43.ScheduleLists', WHERE WHAT IT READS IS OF BULK AT MOST 1048576: true; the input reads as it did. -/
def scheduleListsUptoRow : OpenClaim := { program := "ytcjejcbikgcnbaa", sum := "062a1a8b55c81827369869d5265926064fd41e5aaec90b88afdb86a15cfc2fd8", func := "loftblock/loftblocklaw43.ScheduleLists", spec := "scheduleLists", unfollowed := true, recurses := true, apart := false, narrowed := true }
def ScheduleListsUptoSaid : Prop := scheduleListsUptoRow.holds Try.pinned (OpenSpec.upto scheduleListsSpec)

/-- 'loftblocklaw44.BoundsCliques', WHERE WHAT IT READS IS OF BULK AT MOST 1048576: true; the input reads as it did. -/
def boundsCliquesUptoRow : OpenClaim := { program := "ytcjejcbikgcnbaa", sum := "062a1a8b55c81827369869d5265926064fd41e5aaec90b88afdb86a15cfc2fd8", func := "loftblock/loftblocklaw44.BoundsCliques", spec := "boundsCliques", unfollowed := true, recurses := true, apart := false, narrowed := true }
def BoundsCliquesUptoSaid : Prop := boundsCliquesUptoRow.holds Try.pinned (OpenSpec.upto boundsCliquesSpec)

/-- 'loftblocklaw43.ScheduleKeeps', WHERE WHAT IT READS IS OF BULK AT MOST 1048576: true; the input reads as it did. -/
def scheduleKeepsUptoRow : OpenClaim := { program := "ytcjejcbikgcnbaa", sum := "062a1a8b55c81827369869d5265926064fd41e5aaec90b88afdb86a15cfc2fd8", func := "loftblock/loftblocklaw43.ScheduleKeeps", spec := "scheduleKeeps", unfollowed := true, recurses := true, apart := false, narrowed := true }
def ScheduleKeepsUptoSaid : Prop := scheduleKeepsUptoRow.holds Try.pinned (OpenSpec.upto scheduleKeepsSpec)

/-- 'loftblocklaw44.BoundsHolds', WHERE WHAT IT READS IS OF BULK AT MOST 1048576: true; the input reads as it did. -/
def boundsHoldsUptoRow : OpenClaim := { program := "ytcjejcbikgcnbaa", sum := "062a1a8b55c81827369869d5265926064fd41e5aaec90b88afdb86a15cfc2fd8", func := "loftblock/loftblocklaw44.BoundsHolds", spec := "boundsHolds", unfollowed := true, recurses := true, apart := false, narrowed := true }
def BoundsHoldsUptoSaid : Prop := boundsHoldsUptoRow.holds Try.pinned (OpenSpec.upto boundsHoldsSpec)

end Rows
end Go.Proofs.Ytcjejcbikgcnbaa
