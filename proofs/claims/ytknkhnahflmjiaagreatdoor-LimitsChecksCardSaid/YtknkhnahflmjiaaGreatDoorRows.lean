/-
  NARROWER THAN 'FOR EVERY INPUT', by the rows' own cells (each row's printed sentence says how): LimitsFactors: laid · LimitsJust: laid · LimitsSpares: laid · LimitsChecks: laid · LimitsWeakest: laid · LimitsRoofs: laid · LimitsGreater: laid · VerifySets: laid.
  DERIVED. THE GIVEN ROWS OF THIS SEAT. 8 by the template 'for every input the law returns true; each argument reads behind the call as it read before'; 0 by the template 'total and deterministic' (their statements: YtknkhnahflmjiaaGreatDoorTotals.lean).
  GIVEN WITH THE SEED: the statements are not yours to turn. If you find one false, say at which input.
  Laid BY PROGRAM, IN A SANDBOX (cutbox-rows.mjs): the forced cells as the released guide's own fill.sh prints them over the translation d8f1eb16e55ea38e… (all of the seat's roots in one cut). By AI agents, Wed Nov 11 2026. No macro, syntax, notation, axiom, sorry.
-/
import Derived.Test.YtknkhnahflmjiaaGreatDoorChecked
import GoSem.Claim
import GoSem.ClaimJoined
import GoSem.ClaimMapViews
import Derived.JoinedTies
import Derived.KernelRfl
namespace Go.Proofs.YtknkhnahflmjiaaGreatDoor
/- THE CELL 'sum', in the pinned program and in every row, IS THE sha256 OF THE DUMP (.gsa) THAT YtknkhnahflmjiaaGreatDoorProg.lean LOADS. Nothing in Lean hashes anything: it is a label: what it is worth is what the hold of that sum in a sandbox is worth. -/
noncomputable def Tryz.pinned : Pinned := { name := "ytknkhnahflmjiaagreatdoor", sum := "d8f1eb16e55ea38ee6c15431d9b3b99875b41caaed22a2d8c5153a746bd5109a", checked := Tryz.checked }
namespace Rows
def none {H : Type} : Left H := { results := [], args := [] }

/- WHAT THE LISTED PACKAGE-LEVEL VARIABLES READ AS WHEN THE CALL BEGINS. Each datum BY PROGRAM (the guide's laid-datum.mjs) off the statement by which the dump's own 'gosem.cut.vars' lays the variable. In a bare row this is a premise. The card (YtknkhnahflmjiaaGreatDoorCards.lean) ties it to the program's text. -/
def laid_math_bits_deBruijn32tab {H : Type} : DataW H := .agg [.lit (.int .u8 0), .lit (.int .u8 1), .lit (.int .u8 28), .lit (.int .u8 2), .lit (.int .u8 29), .lit (.int .u8 14), .lit (.int .u8 24), .lit (.int .u8 3), .lit (.int .u8 30), .lit (.int .u8 22), .lit (.int .u8 20), .lit (.int .u8 15), .lit (.int .u8 25), .lit (.int .u8 17), .lit (.int .u8 4), .lit (.int .u8 8), .lit (.int .u8 31), .lit (.int .u8 27), .lit (.int .u8 13), .lit (.int .u8 23), .lit (.int .u8 21), .lit (.int .u8 19), .lit (.int .u8 16), .lit (.int .u8 7), .lit (.int .u8 26), .lit (.int .u8 12), .lit (.int .u8 18), .lit (.int .u8 6), .lit (.int .u8 11), .lit (.int .u8 5), .lit (.int .u8 10), .lit (.int .u8 9)]
def laid_math_bits_deBruijn64tab {H : Type} : DataW H := .agg [.lit (.int .u8 0), .lit (.int .u8 1), .lit (.int .u8 56), .lit (.int .u8 2), .lit (.int .u8 57), .lit (.int .u8 49), .lit (.int .u8 28), .lit (.int .u8 3), .lit (.int .u8 61), .lit (.int .u8 58), .lit (.int .u8 42), .lit (.int .u8 50), .lit (.int .u8 38), .lit (.int .u8 29), .lit (.int .u8 17), .lit (.int .u8 4), .lit (.int .u8 62), .lit (.int .u8 47), .lit (.int .u8 59), .lit (.int .u8 36), .lit (.int .u8 45), .lit (.int .u8 43), .lit (.int .u8 51), .lit (.int .u8 22), .lit (.int .u8 53), .lit (.int .u8 39), .lit (.int .u8 33), .lit (.int .u8 30), .lit (.int .u8 24), .lit (.int .u8 18), .lit (.int .u8 12), .lit (.int .u8 5), .lit (.int .u8 63), .lit (.int .u8 55), .lit (.int .u8 48), .lit (.int .u8 27), .lit (.int .u8 60), .lit (.int .u8 41), .lit (.int .u8 37), .lit (.int .u8 16), .lit (.int .u8 46), .lit (.int .u8 35), .lit (.int .u8 44), .lit (.int .u8 21), .lit (.int .u8 52), .lit (.int .u8 32), .lit (.int .u8 23), .lit (.int .u8 11), .lit (.int .u8 54), .lit (.int .u8 26), .lit (.int .u8 40), .lit (.int .u8 15), .lit (.int .u8 34), .lit (.int .u8 20), .lit (.int .u8 31), .lit (.int .u8 10), .lit (.int .u8 25), .lit (.int .u8 14), .lit (.int .u8 19), .lit (.int .u8 9), .lit (.int .u8 13), .lit (.int .u8 8), .lit (.int .u8 7), .lit (.int .u8 6)]
def laid_internal_strconv_uint64pow10 {H : Type} : DataW H := .agg [.lit (.int .u64 1), .lit (.int .u64 10), .lit (.int .u64 100), .lit (.int .u64 1000), .lit (.int .u64 10000), .lit (.int .u64 100000), .lit (.int .u64 1000000), .lit (.int .u64 10000000), .lit (.int .u64 100000000), .lit (.int .u64 1000000000), .lit (.int .u64 10000000000), .lit (.int .u64 100000000000), .lit (.int .u64 1000000000000), .lit (.int .u64 10000000000000), .lit (.int .u64 100000000000000), .lit (.int .u64 1000000000000000), .lit (.int .u64 10000000000000000), .lit (.int .u64 100000000000000000), .lit (.int .u64 1000000000000000000), .lit (.int .u64 10000000000000000000)]

/-- 'loftblocklaw23.LimitsFactors': WHATEVER THE INPUT: true; the input reads as it did. -/
def limitsFactorsSpec : ChangeSpec := { name := "limitsFactors", fn := fun _ => fun
  | [d1, d2] => { results := [.lit (.bool true)], args := [d1, d2] }
  | _ => none }
def limitsFactorsRow : OpenClaim := { program := "ytknkhnahflmjiaagreatdoor", sum := "d8f1eb16e55ea38ee6c15431d9b3b99875b41caaed22a2d8c5153a746bd5109a", func := "loftblock/loftblocklaw23.LimitsFactors", spec := "limitsFactors", inPlace := ["math/bits.Add64", "math/bits.Sub64"], unfollowed := true, recurses := true, named := ["math/bits.divideError", "math/bits.overflowError", "internal/strconv.uint64pow10", "math/bits.deBruijn32tab", "math/bits.deBruijn64tab"], apart := false, laid := [("math/bits.deBruijn32tab", laid_math_bits_deBruijn32tab), ("math/bits.deBruijn64tab", laid_math_bits_deBruijn64tab), ("internal/strconv.uint64pow10", laid_internal_strconv_uint64pow10)] }
def LimitsFactorsSaid : Prop := limitsFactorsRow.holds Tryz.pinned (OpenSpec.ofChange limitsFactorsSpec)

/-- ITS FALSE NEIGHBOUR: 'it returns false'. Refute it at one input. -/
def limitsFactorsWrong : ChangeSpec := { name := "limitsFactors", fn := fun _ => fun
  | [d1, d2] => { results := [.lit (.bool false)], args := [d1, d2] }
  | _ => none }
def LimitsFactorsWrongFalsely : Prop := limitsFactorsRow.holds Tryz.pinned (OpenSpec.ofChange limitsFactorsWrong)

/-- 'loftblocklaw23.LimitsJust': WHATEVER THE INPUT: true; the input reads as it did. -/
def limitsJustSpec : ChangeSpec := { name := "limitsJust", fn := fun _ => fun
  | [d1, d2] => { results := [.lit (.bool true)], args := [d1, d2] }
  | _ => none }
def limitsJustRow : OpenClaim := { program := "ytknkhnahflmjiaagreatdoor", sum := "d8f1eb16e55ea38ee6c15431d9b3b99875b41caaed22a2d8c5153a746bd5109a", func := "loftblock/loftblocklaw23.LimitsJust", spec := "limitsJust", inPlace := ["math/bits.Add64", "math/bits.Sub64"], unfollowed := true, recurses := true, named := ["math/bits.divideError", "math/bits.overflowError", "internal/strconv.uint64pow10", "math/bits.deBruijn32tab", "math/bits.deBruijn64tab"], apart := false, laid := [("math/bits.deBruijn32tab", laid_math_bits_deBruijn32tab), ("math/bits.deBruijn64tab", laid_math_bits_deBruijn64tab), ("internal/strconv.uint64pow10", laid_internal_strconv_uint64pow10)] }
def LimitsJustSaid : Prop := limitsJustRow.holds Tryz.pinned (OpenSpec.ofChange limitsJustSpec)

/-- ITS FALSE NEIGHBOUR: 'it returns false'. Refute it at one input. -/
def limitsJustWrong : ChangeSpec := { name := "limitsJust", fn := fun _ => fun
  | [d1, d2] => { results := [.lit (.bool false)], args := [d1, d2] }
  | _ => none }
def LimitsJustWrongFalsely : Prop := limitsJustRow.holds Tryz.pinned (OpenSpec.ofChange limitsJustWrong)

/-- 'loftblocklaw23.LimitsSpares': WHATEVER THE INPUT: true; the input reads as it did. -/
def limitsSparesSpec : ChangeSpec := { name := "limitsSpares", fn := fun _ => fun
  | [d1, d2] => { results := [.lit (.bool true)], args := [d1, d2] }
  | _ => none }
def limitsSparesRow : OpenClaim := { program := "ytknkhnahflmjiaagreatdoor", sum := "d8f1eb16e55ea38ee6c15431d9b3b99875b41caaed22a2d8c5153a746bd5109a", func := "loftblock/loftblocklaw23.LimitsSpares", spec := "limitsSpares", inPlace := ["math/bits.Add64", "math/bits.Sub64"], unfollowed := true, recurses := true, named := ["math/bits.divideError", "math/bits.overflowError", "internal/strconv.uint64pow10", "math/bits.deBruijn32tab", "math/bits.deBruijn64tab"], apart := false, laid := [("math/bits.deBruijn32tab", laid_math_bits_deBruijn32tab), ("math/bits.deBruijn64tab", laid_math_bits_deBruijn64tab), ("internal/strconv.uint64pow10", laid_internal_strconv_uint64pow10)] }
def LimitsSparesSaid : Prop := limitsSparesRow.holds Tryz.pinned (OpenSpec.ofChange limitsSparesSpec)

/-- ITS FALSE NEIGHBOUR: 'it returns false'. Refute it at one input. -/
def limitsSparesWrong : ChangeSpec := { name := "limitsSpares", fn := fun _ => fun
  | [d1, d2] => { results := [.lit (.bool false)], args := [d1, d2] }
  | _ => none }
def LimitsSparesWrongFalsely : Prop := limitsSparesRow.holds Tryz.pinned (OpenSpec.ofChange limitsSparesWrong)

/-- 'loftblocklaw23.LimitsChecks': WHATEVER THE INPUT: true; the input reads as it did. -/
def limitsChecksSpec : ChangeSpec := { name := "limitsChecks", fn := fun _ => fun
  | [d1, d2] => { results := [.lit (.bool true)], args := [d1, d2] }
  | _ => none }
def limitsChecksRow : OpenClaim := { program := "ytknkhnahflmjiaagreatdoor", sum := "d8f1eb16e55ea38ee6c15431d9b3b99875b41caaed22a2d8c5153a746bd5109a", func := "loftblock/loftblocklaw23.LimitsChecks", spec := "limitsChecks", inPlace := ["math/bits.Add64", "math/bits.Sub64"], unfollowed := true, recurses := true, named := ["math/bits.divideError", "math/bits.overflowError", "internal/strconv.uint64pow10", "math/bits.deBruijn32tab", "math/bits.deBruijn64tab"], apart := false, laid := [("math/bits.deBruijn32tab", laid_math_bits_deBruijn32tab), ("math/bits.deBruijn64tab", laid_math_bits_deBruijn64tab), ("internal/strconv.uint64pow10", laid_internal_strconv_uint64pow10)] }
def LimitsChecksSaid : Prop := limitsChecksRow.holds Tryz.pinned (OpenSpec.ofChange limitsChecksSpec)

/-- ITS FALSE NEIGHBOUR: 'it returns false'. Refute it at one input. -/
def limitsChecksWrong : ChangeSpec := { name := "limitsChecks", fn := fun _ => fun
  | [d1, d2] => { results := [.lit (.bool false)], args := [d1, d2] }
  | _ => none }
def LimitsChecksWrongFalsely : Prop := limitsChecksRow.holds Tryz.pinned (OpenSpec.ofChange limitsChecksWrong)

/-- 'loftblocklaw23.LimitsWeakest': WHATEVER THE INPUT: true; the input reads as it did. -/
def limitsWeakestSpec : ChangeSpec := { name := "limitsWeakest", fn := fun _ => fun
  | [d1, d2] => { results := [.lit (.bool true)], args := [d1, d2] }
  | _ => none }
def limitsWeakestRow : OpenClaim := { program := "ytknkhnahflmjiaagreatdoor", sum := "d8f1eb16e55ea38ee6c15431d9b3b99875b41caaed22a2d8c5153a746bd5109a", func := "loftblock/loftblocklaw23.LimitsWeakest", spec := "limitsWeakest", inPlace := ["math/bits.Add64", "math/bits.Sub64"], unfollowed := true, recurses := true, named := ["math/bits.divideError", "math/bits.overflowError", "internal/strconv.uint64pow10", "math/bits.deBruijn32tab", "math/bits.deBruijn64tab"], apart := false, laid := [("math/bits.deBruijn32tab", laid_math_bits_deBruijn32tab), ("math/bits.deBruijn64tab", laid_math_bits_deBruijn64tab), ("internal/strconv.uint64pow10", laid_internal_strconv_uint64pow10)] }
def LimitsWeakestSaid : Prop := limitsWeakestRow.holds Tryz.pinned (OpenSpec.ofChange limitsWeakestSpec)

/-- ITS FALSE NEIGHBOUR: 'it returns false'. Refute it at one input. -/
def limitsWeakestWrong : ChangeSpec := { name := "limitsWeakest", fn := fun _ => fun
  | [d1, d2] => { results := [.lit (.bool false)], args := [d1, d2] }
  | _ => none }
def LimitsWeakestWrongFalsely : Prop := limitsWeakestRow.holds Tryz.pinned (OpenSpec.ofChange limitsWeakestWrong)

/-- 'loftblocklaw23.LimitsRoofs': WHATEVER THE INPUT: true; the input reads as it did. -/
def limitsRoofsSpec : ChangeSpec := { name := "limitsRoofs", fn := fun _ => fun
  | [d1, d2, d3] => { results := [.lit (.bool true)], args := [d1, d2, d3] }
  | _ => none }
def limitsRoofsRow : OpenClaim := { program := "ytknkhnahflmjiaagreatdoor", sum := "d8f1eb16e55ea38ee6c15431d9b3b99875b41caaed22a2d8c5153a746bd5109a", func := "loftblock/loftblocklaw23.LimitsRoofs", spec := "limitsRoofs", inPlace := ["math/bits.Add64", "math/bits.Sub64"], unfollowed := true, recurses := true, named := ["math/bits.divideError", "math/bits.overflowError", "internal/strconv.uint64pow10", "math/bits.deBruijn32tab", "math/bits.deBruijn64tab"], apart := false, laid := [("math/bits.deBruijn32tab", laid_math_bits_deBruijn32tab), ("math/bits.deBruijn64tab", laid_math_bits_deBruijn64tab), ("internal/strconv.uint64pow10", laid_internal_strconv_uint64pow10)] }
def LimitsRoofsSaid : Prop := limitsRoofsRow.holds Tryz.pinned (OpenSpec.ofChange limitsRoofsSpec)

/-- ITS FALSE NEIGHBOUR: 'it returns false'. Refute it at one input. -/
def limitsRoofsWrong : ChangeSpec := { name := "limitsRoofs", fn := fun _ => fun
  | [d1, d2, d3] => { results := [.lit (.bool false)], args := [d1, d2, d3] }
  | _ => none }
def LimitsRoofsWrongFalsely : Prop := limitsRoofsRow.holds Tryz.pinned (OpenSpec.ofChange limitsRoofsWrong)

/-- 'loftblocklaw23.LimitsGreater': WHATEVER THE INPUT: true; the input reads as it did. -/
def limitsGreaterSpec : ChangeSpec := { name := "limitsGreater", fn := fun _ => fun
  | [d1, d2, d3, d4, d5, d6] => { results := [.lit (.bool true)], args := [d1, d2, d3, d4, d5, d6] }
  | _ => none }
def limitsGreaterRow : OpenClaim := { program := "ytknkhnahflmjiaagreatdoor", sum := "d8f1eb16e55ea38ee6c15431d9b3b99875b41caaed22a2d8c5153a746bd5109a", func := "loftblock/loftblocklaw23.LimitsGreater", spec := "limitsGreater", inPlace := ["math/bits.Add64", "math/bits.Sub64"], unfollowed := true, recurses := true, named := ["math/bits.divideError", "math/bits.overflowError", "internal/strconv.uint64pow10", "math/bits.deBruijn32tab", "math/bits.deBruijn64tab"], apart := false, laid := [("math/bits.deBruijn32tab", laid_math_bits_deBruijn32tab), ("math/bits.deBruijn64tab", laid_math_bits_deBruijn64tab), ("internal/strconv.uint64pow10", laid_internal_strconv_uint64pow10)] }
def LimitsGreaterSaid : Prop := limitsGreaterRow.holds Tryz.pinned (OpenSpec.ofChange limitsGreaterSpec)

/-- ITS FALSE NEIGHBOUR: 'it returns false'. Refute it at one input. -/
def limitsGreaterWrong : ChangeSpec := { name := "limitsGreater", fn := fun _ => fun
  | [d1, d2, d3, d4, d5, d6] => { results := [.lit (.bool false)], args := [d1, d2, d3, d4, d5, d6] }
  | _ => none }
def LimitsGreaterWrongFalsely : Prop := limitsGreaterRow.holds Tryz.pinned (OpenSpec.ofChange limitsGreaterWrong)

/-- 'loftblocklaw51.VerifySets': WHATEVER THE INPUT: true; the input reads as it did. -/
def verifySetsSpec : ChangeSpec := { name := "verifySets", fn := fun _ => fun
  | [d1, d2, d3] => { results := [.lit (.bool true)], args := [d1, d2, d3] }
  | _ => none }
def verifySetsRow : OpenClaim := { program := "ytknkhnahflmjiaagreatdoor", sum := "d8f1eb16e55ea38ee6c15431d9b3b99875b41caaed22a2d8c5153a746bd5109a", func := "loftblock/loftblocklaw51.VerifySets", spec := "verifySets", unfollowed := true, recurses := true, named := ["internal/strconv.uint64pow10", "math/bits.deBruijn32tab", "math/bits.deBruijn64tab"], apart := false, laid := [("math/bits.deBruijn32tab", laid_math_bits_deBruijn32tab), ("math/bits.deBruijn64tab", laid_math_bits_deBruijn64tab), ("internal/strconv.uint64pow10", laid_internal_strconv_uint64pow10)] }
def VerifySetsSaid : Prop := verifySetsRow.holds Tryz.pinned (OpenSpec.ofChange verifySetsSpec)

/-- ITS FALSE NEIGHBOUR: 'it returns false'. Refute it at one input. -/
def verifySetsWrong : ChangeSpec := { name := "verifySets", fn := fun _ => fun
  | [d1, d2, d3] => { results := [.lit (.bool false)], args := [d1, d2, d3] }
  | _ => none }
def VerifySetsWrongFalsely : Prop := verifySetsRow.holds Tryz.pinned (OpenSpec.ofChange verifySetsWrong)

/- THE SECOND FORM. 'bulk': how many values and letters a reading holds, each counted each time it is reached (what is shared counts as often as it is met; a slice's spare places count too). A statement '..UptoSaid' is the law's where the arguments, and the package variables that the reading takes, are together of bulk at most 1048576: NARROWER than '..Said'. Prove '..Said' where nothing that the law and all that it calls make is longer than what came in: it says more and counts as full. Else prove '..UptoSaid'. A law counts once. -/
mutual
def uptoBulk {H : Type} : DataW H → Nat
  | .lit (.string bytes) => bytes.length + 1
  | .lit _ => 1
  | .nil => 1
  | .ptr d => uptoBulk d + 1
  | .slice elems spare => uptoBulkAll elems + uptoBulkAll spare + 1
  | .agg parts => uptoBulkAll parts + 1
  | .iface _ d => uptoBulk d + 1
  | .map entries => uptoBulkEntries entries + 1
  | .held _ => 1
def uptoBulkAll {H : Type} : List (DataW H) → Nat
  | [] => 0
  | d :: r => uptoBulk d + uptoBulkAll r
def uptoBulkEntries {H : Type} : List (Lit × DataW H) → Nat
  | [] => 0
  | x :: r => uptoBulkEntry x + uptoBulkEntries r
def uptoBulkEntry {H : Type} : Lit × DataW H → Nat
  | (.string bytes, d) => bytes.length + uptoBulk d + 1
  | (_, d) => uptoBulk d + 1
 end
def uptoSmall : (H : Type) → List (DataW H) → Bool := fun _ ds => decide (uptoBulkAll ds ≤ 1048576)
def OpenSpec.upto (s : _root_.Go.ChangeSpec) : _root_.Go.OpenSpec := { _root_.Go.OpenSpec.ofChange s with cond := some uptoSmall }

/-- 'loftblocklaw23.LimitsFactors', WHERE WHAT IT READS IS OF BULK AT MOST 1048576: true; the input reads as it did. -/
def limitsFactorsUptoRow : OpenClaim := { program := "ytknkhnahflmjiaagreatdoor", sum := "d8f1eb16e55ea38ee6c15431d9b3b99875b41caaed22a2d8c5153a746bd5109a", func := "loftblock/loftblocklaw23.LimitsFactors", spec := "limitsFactors", inPlace := ["math/bits.Add64", "math/bits.Sub64"], unfollowed := true, recurses := true, named := ["math/bits.divideError", "math/bits.overflowError", "internal/strconv.uint64pow10", "math/bits.deBruijn32tab", "math/bits.deBruijn64tab"], apart := false, laid := [("math/bits.deBruijn32tab", laid_math_bits_deBruijn32tab), ("math/bits.deBruijn64tab", laid_math_bits_deBruijn64tab), ("internal/strconv.uint64pow10", laid_internal_strconv_uint64pow10)], narrowed := true }
def LimitsFactorsUptoSaid : Prop := limitsFactorsUptoRow.holds Tryz.pinned (OpenSpec.upto limitsFactorsSpec)

/-- 'loftblocklaw23.LimitsJust', WHERE WHAT IT READS IS OF BULK AT MOST 1048576: true; the input reads as it did. -/
def limitsJustUptoRow : OpenClaim := { program := "ytknkhnahflmjiaagreatdoor", sum := "d8f1eb16e55ea38ee6c15431d9b3b99875b41caaed22a2d8c5153a746bd5109a", func := "loftblock/loftblocklaw23.LimitsJust", spec := "limitsJust", inPlace := ["math/bits.Add64", "math/bits.Sub64"], unfollowed := true, recurses := true, named := ["math/bits.divideError", "math/bits.overflowError", "internal/strconv.uint64pow10", "math/bits.deBruijn32tab", "math/bits.deBruijn64tab"], apart := false, laid := [("math/bits.deBruijn32tab", laid_math_bits_deBruijn32tab), ("math/bits.deBruijn64tab", laid_math_bits_deBruijn64tab), ("internal/strconv.uint64pow10", laid_internal_strconv_uint64pow10)], narrowed := true }
def LimitsJustUptoSaid : Prop := limitsJustUptoRow.holds Tryz.pinned (OpenSpec.upto limitsJustSpec)

/-- 'loftblocklaw23.LimitsSpares', WHERE WHAT IT READS IS OF BULK AT MOST 1048576: true; the input reads as it did. -/
def limitsSparesUptoRow : OpenClaim := { program := "ytknkhnahflmjiaagreatdoor", sum := "d8f1eb16e55ea38ee6c15431d9b3b99875b41caaed22a2d8c5153a746bd5109a", func := "loftblock/loftblocklaw23.LimitsSpares", spec := "limitsSpares", inPlace := ["math/bits.Add64", "math/bits.Sub64"], unfollowed := true, recurses := true, named := ["math/bits.divideError", "math/bits.overflowError", "internal/strconv.uint64pow10", "math/bits.deBruijn32tab", "math/bits.deBruijn64tab"], apart := false, laid := [("math/bits.deBruijn32tab", laid_math_bits_deBruijn32tab), ("math/bits.deBruijn64tab", laid_math_bits_deBruijn64tab), ("internal/strconv.uint64pow10", laid_internal_strconv_uint64pow10)], narrowed := true }
def LimitsSparesUptoSaid : Prop := limitsSparesUptoRow.holds Tryz.pinned (OpenSpec.upto limitsSparesSpec)

/-- 'loftblocklaw23.LimitsChecks', WHERE WHAT IT READS IS OF BULK AT MOST 1048576: true; the input reads as it did. -/
def limitsChecksUptoRow : OpenClaim := { program := "ytknkhnahflmjiaagreatdoor", sum := "d8f1eb16e55ea38ee6c15431d9b3b99875b41caaed22a2d8c5153a746bd5109a", func := "loftblock/loftblocklaw23.LimitsChecks", spec := "limitsChecks", inPlace := ["math/bits.Add64", "math/bits.Sub64"], unfollowed := true, recurses := true, named := ["math/bits.divideError", "math/bits.overflowError", "internal/strconv.uint64pow10", "math/bits.deBruijn32tab", "math/bits.deBruijn64tab"], apart := false, laid := [("math/bits.deBruijn32tab", laid_math_bits_deBruijn32tab), ("math/bits.deBruijn64tab", laid_math_bits_deBruijn64tab), ("internal/strconv.uint64pow10", laid_internal_strconv_uint64pow10)], narrowed := true }
def LimitsChecksUptoSaid : Prop := limitsChecksUptoRow.holds Tryz.pinned (OpenSpec.upto limitsChecksSpec)

/-- 'loftblocklaw23.LimitsWeakest', WHERE WHAT IT READS IS OF BULK AT MOST 1048576: true; the input reads as it did. -/
def limitsWeakestUptoRow : OpenClaim := { program := "ytknkhnahflmjiaagreatdoor", sum := "d8f1eb16e55ea38ee6c15431d9b3b99875b41caaed22a2d8c5153a746bd5109a", func := "loftblock/loftblocklaw23.LimitsWeakest", spec := "limitsWeakest", inPlace := ["math/bits.Add64", "math/bits.Sub64"], unfollowed := true, recurses := true, named := ["math/bits.divideError", "math/bits.overflowError", "internal/strconv.uint64pow10", "math/bits.deBruijn32tab", "math/bits.deBruijn64tab"], apart := false, laid := [("math/bits.deBruijn32tab", laid_math_bits_deBruijn32tab), ("math/bits.deBruijn64tab", laid_math_bits_deBruijn64tab), ("internal/strconv.uint64pow10", laid_internal_strconv_uint64pow10)], narrowed := true }
def LimitsWeakestUptoSaid : Prop := limitsWeakestUptoRow.holds Tryz.pinned (OpenSpec.upto limitsWeakestSpec)

/-- 'loftblocklaw23.LimitsRoofs', WHERE WHAT IT READS IS OF BULK AT MOST 1048576: true; the input reads as it did. -/
def limitsRoofsUptoRow : OpenClaim := { program := "ytknkhnahflmjiaagreatdoor", sum := "d8f1eb16e55ea38ee6c15431d9b3b99875b41caaed22a2d8c5153a746bd5109a", func := "loftblock/loftblocklaw23.LimitsRoofs", spec := "limitsRoofs", inPlace := ["math/bits.Add64", "math/bits.Sub64"], unfollowed := true, recurses := true, named := ["math/bits.divideError", "math/bits.overflowError", "internal/strconv.uint64pow10", "math/bits.deBruijn32tab", "math/bits.deBruijn64tab"], apart := false, laid := [("math/bits.deBruijn32tab", laid_math_bits_deBruijn32tab), ("math/bits.deBruijn64tab", laid_math_bits_deBruijn64tab), ("internal/strconv.uint64pow10", laid_internal_strconv_uint64pow10)], narrowed := true }
def LimitsRoofsUptoSaid : Prop := limitsRoofsUptoRow.holds Tryz.pinned (OpenSpec.upto limitsRoofsSpec)

/-- 'loftblocklaw23.LimitsGreater', WHERE WHAT IT READS IS OF BULK AT MOST 1048576: true; the input reads as it did. -/
def limitsGreaterUptoRow : OpenClaim := { program := "ytknkhnahflmjiaagreatdoor", sum := "d8f1eb16e55ea38ee6c15431d9b3b99875b41caaed22a2d8c5153a746bd5109a", func := "loftblock/loftblocklaw23.LimitsGreater", spec := "limitsGreater", inPlace := ["math/bits.Add64", "math/bits.Sub64"], unfollowed := true, recurses := true, named := ["math/bits.divideError", "math/bits.overflowError", "internal/strconv.uint64pow10", "math/bits.deBruijn32tab", "math/bits.deBruijn64tab"], apart := false, laid := [("math/bits.deBruijn32tab", laid_math_bits_deBruijn32tab), ("math/bits.deBruijn64tab", laid_math_bits_deBruijn64tab), ("internal/strconv.uint64pow10", laid_internal_strconv_uint64pow10)], narrowed := true }
def LimitsGreaterUptoSaid : Prop := limitsGreaterUptoRow.holds Tryz.pinned (OpenSpec.upto limitsGreaterSpec)

/-- 'loftblocklaw51.VerifySets', WHERE WHAT IT READS IS OF BULK AT MOST 1048576: true; the input reads as it did. -/
def verifySetsUptoRow : OpenClaim := { program := "ytknkhnahflmjiaagreatdoor", sum := "d8f1eb16e55ea38ee6c15431d9b3b99875b41caaed22a2d8c5153a746bd5109a", func := "loftblock/loftblocklaw51.VerifySets", spec := "verifySets", unfollowed := true, recurses := true, named := ["internal/strconv.uint64pow10", "math/bits.deBruijn32tab", "math/bits.deBruijn64tab"], apart := false, laid := [("math/bits.deBruijn32tab", laid_math_bits_deBruijn32tab), ("math/bits.deBruijn64tab", laid_math_bits_deBruijn64tab), ("internal/strconv.uint64pow10", laid_internal_strconv_uint64pow10)], narrowed := true }
def VerifySetsUptoSaid : Prop := verifySetsUptoRow.holds Tryz.pinned (OpenSpec.upto verifySetsSpec)

end Rows
end Go.Proofs.YtknkhnahflmjiaaGreatDoor
