/-
  NARROWER THAN 'FOR EVERY INPUT', by the rows' own cells (each row's printed sentence says how): LinesetChecks: laid · VersionsApart: laid · VersionsScript: laid · VersionsZero: laid · VersionsFollow: laid · VersionsUndone: laid · VersionsOthers: laid · LinesetTexts: laid · LinesetDiffers: laid.
  DERIVED. THE GIVEN ROWS OF THIS SEAT. 9 by the template 'for every input the law returns true; each argument reads behind the call as it read before'; 0 by the template 'total and deterministic' (their statements: YtbhmkcjddpniiaaGreatDoorTotals.lean).
  GIVEN WITH THE SEED: the statements are not yours to turn. If you find one false, say at which input.
  Laid BY PROGRAM, IN A SANDBOX (cutbox-rows.mjs): the forced cells as the released guide's own fill.sh prints them over the translation bbc96032f5325995… (all of the seat's roots in one cut). By AI agents, Wed Nov 11 2026. No macro, syntax, notation, axiom, sorry.
-/
import Derived.Test.YtbhmkcjddpniiaaGreatDoorChecked
import GoSem.Claim
import GoSem.ClaimJoined
import GoSem.ClaimMapViews
import Derived.JoinedTies
import Derived.KernelRfl
namespace Go.Proofs.YtbhmkcjddpniiaaGreatDoor
/- THE CELL 'sum', in the pinned program and in every row, IS THE sha256 OF THE DUMP (.gsa) THAT YtbhmkcjddpniiaaGreatDoorProg.lean LOADS. Nothing in Lean hashes anything: it is a label: what it is worth is what the hold of that sum in a sandbox is worth. -/
noncomputable def Tryz.pinned : Pinned := { name := "ytbhmkcjddpniiaagreatdoor", sum := "bbc96032f5325995c85c31e3feb1e13b4f3170c815c9d561a7e88606c4045662", checked := Tryz.checked }
namespace Rows
def none {H : Type} : Left H := { results := [], args := [] }

/- WHAT THE LISTED PACKAGE-LEVEL VARIABLES READ AS WHEN THE CALL BEGINS. Each datum BY PROGRAM (the guide's laid-datum.mjs) off the statement by which the dump's own 'gosem.cut.vars' lays the variable. In a bare row this is a premise. The card (YtbhmkcjddpniiaaGreatDoorCards.lean) ties it to the program's text. -/
def laid_math_bits_deBruijn32tab {H : Type} : DataW H := .agg [.lit (.int .u8 0), .lit (.int .u8 1), .lit (.int .u8 28), .lit (.int .u8 2), .lit (.int .u8 29), .lit (.int .u8 14), .lit (.int .u8 24), .lit (.int .u8 3), .lit (.int .u8 30), .lit (.int .u8 22), .lit (.int .u8 20), .lit (.int .u8 15), .lit (.int .u8 25), .lit (.int .u8 17), .lit (.int .u8 4), .lit (.int .u8 8), .lit (.int .u8 31), .lit (.int .u8 27), .lit (.int .u8 13), .lit (.int .u8 23), .lit (.int .u8 21), .lit (.int .u8 19), .lit (.int .u8 16), .lit (.int .u8 7), .lit (.int .u8 26), .lit (.int .u8 12), .lit (.int .u8 18), .lit (.int .u8 6), .lit (.int .u8 11), .lit (.int .u8 5), .lit (.int .u8 10), .lit (.int .u8 9)]
def laid_math_bits_deBruijn64tab {H : Type} : DataW H := .agg [.lit (.int .u8 0), .lit (.int .u8 1), .lit (.int .u8 56), .lit (.int .u8 2), .lit (.int .u8 57), .lit (.int .u8 49), .lit (.int .u8 28), .lit (.int .u8 3), .lit (.int .u8 61), .lit (.int .u8 58), .lit (.int .u8 42), .lit (.int .u8 50), .lit (.int .u8 38), .lit (.int .u8 29), .lit (.int .u8 17), .lit (.int .u8 4), .lit (.int .u8 62), .lit (.int .u8 47), .lit (.int .u8 59), .lit (.int .u8 36), .lit (.int .u8 45), .lit (.int .u8 43), .lit (.int .u8 51), .lit (.int .u8 22), .lit (.int .u8 53), .lit (.int .u8 39), .lit (.int .u8 33), .lit (.int .u8 30), .lit (.int .u8 24), .lit (.int .u8 18), .lit (.int .u8 12), .lit (.int .u8 5), .lit (.int .u8 63), .lit (.int .u8 55), .lit (.int .u8 48), .lit (.int .u8 27), .lit (.int .u8 60), .lit (.int .u8 41), .lit (.int .u8 37), .lit (.int .u8 16), .lit (.int .u8 46), .lit (.int .u8 35), .lit (.int .u8 44), .lit (.int .u8 21), .lit (.int .u8 52), .lit (.int .u8 32), .lit (.int .u8 23), .lit (.int .u8 11), .lit (.int .u8 54), .lit (.int .u8 26), .lit (.int .u8 40), .lit (.int .u8 15), .lit (.int .u8 34), .lit (.int .u8 20), .lit (.int .u8 31), .lit (.int .u8 10), .lit (.int .u8 25), .lit (.int .u8 14), .lit (.int .u8 19), .lit (.int .u8 9), .lit (.int .u8 13), .lit (.int .u8 8), .lit (.int .u8 7), .lit (.int .u8 6)]
def laid_internal_strconv_uint64pow10 {H : Type} : DataW H := .agg [.lit (.int .u64 1), .lit (.int .u64 10), .lit (.int .u64 100), .lit (.int .u64 1000), .lit (.int .u64 10000), .lit (.int .u64 100000), .lit (.int .u64 1000000), .lit (.int .u64 10000000), .lit (.int .u64 100000000), .lit (.int .u64 1000000000), .lit (.int .u64 10000000000), .lit (.int .u64 100000000000), .lit (.int .u64 1000000000000), .lit (.int .u64 10000000000000), .lit (.int .u64 100000000000000), .lit (.int .u64 1000000000000000), .lit (.int .u64 10000000000000000), .lit (.int .u64 100000000000000000), .lit (.int .u64 1000000000000000000), .lit (.int .u64 10000000000000000000)]

/-- 'loftblocklaw29.LinesetChecks': WHATEVER THE INPUT: true; the input reads as it did. -/
def linesetChecksSpec : ChangeSpec := { name := "linesetChecks", fn := fun _ => fun
  | [d] => { results := [.lit (.bool true)], args := [d] }
  | _ => none }
def linesetChecksRow : OpenClaim := { program := "ytbhmkcjddpniiaagreatdoor", sum := "bbc96032f5325995c85c31e3feb1e13b4f3170c815c9d561a7e88606c4045662", func := "loftblock/loftblocklaw29.LinesetChecks", spec := "linesetChecks", unfollowed := true, recurses := true, named := ["internal/strconv.uint64pow10", "math/bits.deBruijn32tab", "math/bits.deBruijn64tab"], apart := false, laid := [("math/bits.deBruijn32tab", laid_math_bits_deBruijn32tab), ("math/bits.deBruijn64tab", laid_math_bits_deBruijn64tab), ("internal/strconv.uint64pow10", laid_internal_strconv_uint64pow10)] }
def LinesetChecksSaid : Prop := linesetChecksRow.holds Tryz.pinned (OpenSpec.ofChange linesetChecksSpec)

/-- ITS FALSE NEIGHBOUR: 'it returns false'. Refute it at one input. -/
def linesetChecksWrong : ChangeSpec := { name := "linesetChecks", fn := fun _ => fun
  | [d] => { results := [.lit (.bool false)], args := [d] }
  | _ => none }
def LinesetChecksWrongFalsely : Prop := linesetChecksRow.holds Tryz.pinned (OpenSpec.ofChange linesetChecksWrong)

/-- 'loftblocklaw49.VersionsApart': WHATEVER THE INPUT: true; the input reads as it did. -/
def versionsApartSpec : ChangeSpec := { name := "versionsApart", fn := fun _ => fun
  | [d] => { results := [.lit (.bool true)], args := [d] }
  | _ => none }
def versionsApartRow : OpenClaim := { program := "ytbhmkcjddpniiaagreatdoor", sum := "bbc96032f5325995c85c31e3feb1e13b4f3170c815c9d561a7e88606c4045662", func := "loftblock/loftblocklaw49.VersionsApart", spec := "versionsApart", inPlace := ["internal/abi.NoEscape", "internal/bytealg.MakeNoZero"], unfollowed := true, recurses := true, named := ["internal/strconv.uint64pow10", "math/bits.deBruijn32tab", "math/bits.deBruijn64tab"], apart := false, laid := [("math/bits.deBruijn32tab", laid_math_bits_deBruijn32tab), ("math/bits.deBruijn64tab", laid_math_bits_deBruijn64tab), ("internal/strconv.uint64pow10", laid_internal_strconv_uint64pow10)] }
def VersionsApartSaid : Prop := versionsApartRow.holds Tryz.pinned (OpenSpec.ofChange versionsApartSpec)

/-- ITS FALSE NEIGHBOUR: 'it returns false'. Refute it at one input. -/
def versionsApartWrong : ChangeSpec := { name := "versionsApart", fn := fun _ => fun
  | [d] => { results := [.lit (.bool false)], args := [d] }
  | _ => none }
def VersionsApartWrongFalsely : Prop := versionsApartRow.holds Tryz.pinned (OpenSpec.ofChange versionsApartWrong)

/-- 'loftblocklaw49.VersionsScript': WHATEVER THE INPUT: true; the input reads as it did. -/
def versionsScriptSpec : ChangeSpec := { name := "versionsScript", fn := fun _ => fun
  | [d] => { results := [.lit (.bool true)], args := [d] }
  | _ => none }
def versionsScriptRow : OpenClaim := { program := "ytbhmkcjddpniiaagreatdoor", sum := "bbc96032f5325995c85c31e3feb1e13b4f3170c815c9d561a7e88606c4045662", func := "loftblock/loftblocklaw49.VersionsScript", spec := "versionsScript", inPlace := ["internal/abi.NoEscape", "internal/bytealg.MakeNoZero"], unfollowed := true, recurses := true, named := ["internal/strconv.uint64pow10", "math/bits.deBruijn32tab", "math/bits.deBruijn64tab"], apart := false, laid := [("math/bits.deBruijn32tab", laid_math_bits_deBruijn32tab), ("math/bits.deBruijn64tab", laid_math_bits_deBruijn64tab), ("internal/strconv.uint64pow10", laid_internal_strconv_uint64pow10)] }
def VersionsScriptSaid : Prop := versionsScriptRow.holds Tryz.pinned (OpenSpec.ofChange versionsScriptSpec)

/-- ITS FALSE NEIGHBOUR: 'it returns false'. Refute it at one input. -/
def versionsScriptWrong : ChangeSpec := { name := "versionsScript", fn := fun _ => fun
  | [d] => { results := [.lit (.bool false)], args := [d] }
  | _ => none }
def VersionsScriptWrongFalsely : Prop := versionsScriptRow.holds Tryz.pinned (OpenSpec.ofChange versionsScriptWrong)

/-- 'loftblocklaw49.VersionsZero': WHATEVER THE INPUT: true; the input reads as it did. -/
def versionsZeroSpec : ChangeSpec := { name := "versionsZero", fn := fun _ => fun
  | [d] => { results := [.lit (.bool true)], args := [d] }
  | _ => none }
def versionsZeroRow : OpenClaim := { program := "ytbhmkcjddpniiaagreatdoor", sum := "bbc96032f5325995c85c31e3feb1e13b4f3170c815c9d561a7e88606c4045662", func := "loftblock/loftblocklaw49.VersionsZero", spec := "versionsZero", inPlace := ["internal/abi.NoEscape", "internal/bytealg.MakeNoZero"], unfollowed := true, recurses := true, named := ["internal/strconv.uint64pow10", "math/bits.deBruijn32tab", "math/bits.deBruijn64tab"], apart := false, laid := [("math/bits.deBruijn32tab", laid_math_bits_deBruijn32tab), ("math/bits.deBruijn64tab", laid_math_bits_deBruijn64tab), ("internal/strconv.uint64pow10", laid_internal_strconv_uint64pow10)] }
def VersionsZeroSaid : Prop := versionsZeroRow.holds Tryz.pinned (OpenSpec.ofChange versionsZeroSpec)

/-- ITS FALSE NEIGHBOUR: 'it returns false'. Refute it at one input. -/
def versionsZeroWrong : ChangeSpec := { name := "versionsZero", fn := fun _ => fun
  | [d] => { results := [.lit (.bool false)], args := [d] }
  | _ => none }
def VersionsZeroWrongFalsely : Prop := versionsZeroRow.holds Tryz.pinned (OpenSpec.ofChange versionsZeroWrong)

/-- 'loftblocklaw49.VersionsFollow': WHATEVER THE INPUT: true; the input reads as it did. -/
def versionsFollowSpec : ChangeSpec := { name := "versionsFollow", fn := fun _ => fun
  | [d] => { results := [.lit (.bool true)], args := [d] }
  | _ => none }
def versionsFollowRow : OpenClaim := { program := "ytbhmkcjddpniiaagreatdoor", sum := "bbc96032f5325995c85c31e3feb1e13b4f3170c815c9d561a7e88606c4045662", func := "loftblock/loftblocklaw49.VersionsFollow", spec := "versionsFollow", inPlace := ["internal/abi.NoEscape", "internal/bytealg.MakeNoZero"], unfollowed := true, recurses := true, named := ["internal/strconv.uint64pow10", "math/bits.deBruijn32tab", "math/bits.deBruijn64tab"], apart := false, laid := [("math/bits.deBruijn32tab", laid_math_bits_deBruijn32tab), ("math/bits.deBruijn64tab", laid_math_bits_deBruijn64tab), ("internal/strconv.uint64pow10", laid_internal_strconv_uint64pow10)] }
def VersionsFollowSaid : Prop := versionsFollowRow.holds Tryz.pinned (OpenSpec.ofChange versionsFollowSpec)

/-- ITS FALSE NEIGHBOUR: 'it returns false'. Refute it at one input. -/
def versionsFollowWrong : ChangeSpec := { name := "versionsFollow", fn := fun _ => fun
  | [d] => { results := [.lit (.bool false)], args := [d] }
  | _ => none }
def VersionsFollowWrongFalsely : Prop := versionsFollowRow.holds Tryz.pinned (OpenSpec.ofChange versionsFollowWrong)

/-- 'loftblocklaw49.VersionsUndone': WHATEVER THE INPUT: true; the input reads as it did. -/
def versionsUndoneSpec : ChangeSpec := { name := "versionsUndone", fn := fun _ => fun
  | [d1, d2] => { results := [.lit (.bool true)], args := [d1, d2] }
  | _ => none }
def versionsUndoneRow : OpenClaim := { program := "ytbhmkcjddpniiaagreatdoor", sum := "bbc96032f5325995c85c31e3feb1e13b4f3170c815c9d561a7e88606c4045662", func := "loftblock/loftblocklaw49.VersionsUndone", spec := "versionsUndone", inPlace := ["internal/abi.NoEscape", "internal/bytealg.MakeNoZero"], unfollowed := true, recurses := true, named := ["internal/strconv.uint64pow10", "math/bits.deBruijn32tab", "math/bits.deBruijn64tab"], apart := false, laid := [("math/bits.deBruijn32tab", laid_math_bits_deBruijn32tab), ("math/bits.deBruijn64tab", laid_math_bits_deBruijn64tab), ("internal/strconv.uint64pow10", laid_internal_strconv_uint64pow10)] }
def VersionsUndoneSaid : Prop := versionsUndoneRow.holds Tryz.pinned (OpenSpec.ofChange versionsUndoneSpec)

/-- ITS FALSE NEIGHBOUR: 'it returns false'. Refute it at one input. -/
def versionsUndoneWrong : ChangeSpec := { name := "versionsUndone", fn := fun _ => fun
  | [d1, d2] => { results := [.lit (.bool false)], args := [d1, d2] }
  | _ => none }
def VersionsUndoneWrongFalsely : Prop := versionsUndoneRow.holds Tryz.pinned (OpenSpec.ofChange versionsUndoneWrong)

/-- 'loftblocklaw49.VersionsOthers': WHATEVER THE INPUT: true; the input reads as it did. -/
def versionsOthersSpec : ChangeSpec := { name := "versionsOthers", fn := fun _ => fun
  | [d1, d2] => { results := [.lit (.bool true)], args := [d1, d2] }
  | _ => none }
def versionsOthersRow : OpenClaim := { program := "ytbhmkcjddpniiaagreatdoor", sum := "bbc96032f5325995c85c31e3feb1e13b4f3170c815c9d561a7e88606c4045662", func := "loftblock/loftblocklaw49.VersionsOthers", spec := "versionsOthers", inPlace := ["internal/abi.NoEscape", "internal/bytealg.MakeNoZero"], unfollowed := true, recurses := true, named := ["internal/strconv.uint64pow10", "math/bits.deBruijn32tab", "math/bits.deBruijn64tab"], apart := false, laid := [("math/bits.deBruijn32tab", laid_math_bits_deBruijn32tab), ("math/bits.deBruijn64tab", laid_math_bits_deBruijn64tab), ("internal/strconv.uint64pow10", laid_internal_strconv_uint64pow10)] }
def VersionsOthersSaid : Prop := versionsOthersRow.holds Tryz.pinned (OpenSpec.ofChange versionsOthersSpec)

/-- ITS FALSE NEIGHBOUR: 'it returns false'. Refute it at one input. -/
def versionsOthersWrong : ChangeSpec := { name := "versionsOthers", fn := fun _ => fun
  | [d1, d2] => { results := [.lit (.bool false)], args := [d1, d2] }
  | _ => none }
def VersionsOthersWrongFalsely : Prop := versionsOthersRow.holds Tryz.pinned (OpenSpec.ofChange versionsOthersWrong)

/-- 'loftblocklaw29.LinesetTexts': WHATEVER THE INPUT: true; the input reads as it did. -/
def linesetTextsSpec : ChangeSpec := { name := "linesetTexts", fn := fun _ => fun
  | [d1, d2, d3] => { results := [.lit (.bool true)], args := [d1, d2, d3] }
  | _ => none }
def linesetTextsRow : OpenClaim := { program := "ytbhmkcjddpniiaagreatdoor", sum := "bbc96032f5325995c85c31e3feb1e13b4f3170c815c9d561a7e88606c4045662", func := "loftblock/loftblocklaw29.LinesetTexts", spec := "linesetTexts", inPlace := ["internal/abi.NoEscape", "internal/bytealg.MakeNoZero"], unfollowed := true, recurses := true, named := ["internal/strconv.uint64pow10", "math/bits.deBruijn32tab", "math/bits.deBruijn64tab"], apart := false, laid := [("math/bits.deBruijn32tab", laid_math_bits_deBruijn32tab), ("math/bits.deBruijn64tab", laid_math_bits_deBruijn64tab), ("internal/strconv.uint64pow10", laid_internal_strconv_uint64pow10)] }
def LinesetTextsSaid : Prop := linesetTextsRow.holds Tryz.pinned (OpenSpec.ofChange linesetTextsSpec)

/-- ITS FALSE NEIGHBOUR: 'it returns false'. Refute it at one input. -/
def linesetTextsWrong : ChangeSpec := { name := "linesetTexts", fn := fun _ => fun
  | [d1, d2, d3] => { results := [.lit (.bool false)], args := [d1, d2, d3] }
  | _ => none }
def LinesetTextsWrongFalsely : Prop := linesetTextsRow.holds Tryz.pinned (OpenSpec.ofChange linesetTextsWrong)

/-- 'loftblocklaw29.LinesetDiffers': WHATEVER THE INPUT: true; the input reads as it did. -/
def linesetDiffersSpec : ChangeSpec := { name := "linesetDiffers", fn := fun _ => fun
  | [d1, d2] => { results := [.lit (.bool true)], args := [d1, d2] }
  | _ => none }
def linesetDiffersRow : OpenClaim := { program := "ytbhmkcjddpniiaagreatdoor", sum := "bbc96032f5325995c85c31e3feb1e13b4f3170c815c9d561a7e88606c4045662", func := "loftblock/loftblocklaw29.LinesetDiffers", spec := "linesetDiffers", inPlace := ["internal/abi.NoEscape", "internal/bytealg.MakeNoZero", "internal/bytealg.CountString", "internal/bytealg.IndexByteString", "internal/bytealg.IndexString"], unfollowed := true, recurses := true, named := ["internal/strconv.uint64pow10", "math/bits.deBruijn32tab", "math/bits.deBruijn64tab", "internal/bytealg.MaxLen"], apart := false, laid := [("math/bits.deBruijn32tab", laid_math_bits_deBruijn32tab), ("math/bits.deBruijn64tab", laid_math_bits_deBruijn64tab), ("internal/strconv.uint64pow10", laid_internal_strconv_uint64pow10)] }
def LinesetDiffersSaid : Prop := linesetDiffersRow.holds Tryz.pinned (OpenSpec.ofChange linesetDiffersSpec)

/-- ITS FALSE NEIGHBOUR: 'it returns false'. Refute it at one input. -/
def linesetDiffersWrong : ChangeSpec := { name := "linesetDiffers", fn := fun _ => fun
  | [d1, d2] => { results := [.lit (.bool false)], args := [d1, d2] }
  | _ => none }
def LinesetDiffersWrongFalsely : Prop := linesetDiffersRow.holds Tryz.pinned (OpenSpec.ofChange linesetDiffersWrong)

/- THE SECOND FORM. 'bulk': how many values and letters a reading holds, each counted each time it is reached (what is shared counts as often as it is met; a slice's spare places count too). A statement '..UptoSaid' is the law's where the arguments, and the package variables that the reading takes, are together of bulk at most 1048576: NARROWER than '..Said'. Prove '..Said' where nothing that the law and all that it calls make is longer than what came in: it says more and counts as full. Else prove '..UptoSaid'. A law counts once. -/
mutual
def uptoBulk {H : Type} : DataW H → Nat
  | .lit (.string bytes) => bytes.length + 1
  | .lit _ => 1
  | .nil => 1
  | .ptr d => uptoBulk d + 1
  | .slice elems spare => uptoBulkAll elems + uptoBulkAll spare + 1
  | .agg parts => uptoBulkAll parts + 1
  | .iface _ d => uptoBulk d + 1
  | .map entries => uptoBulkEntries entries + 1
  | .held _ => 1
def uptoBulkAll {H : Type} : List (DataW H) → Nat
  | [] => 0
  | d :: r => uptoBulk d + uptoBulkAll r
def uptoBulkEntries {H : Type} : List (Lit × DataW H) → Nat
  | [] => 0
  | x :: r => uptoBulkEntry x + uptoBulkEntries r
def uptoBulkEntry {H : Type} : Lit × DataW H → Nat
  | (.string bytes, d) => bytes.length + uptoBulk d + 1
  | (_, d) => uptoBulk d + 1
 end
def uptoSmall : (H : Type) → List (DataW H) → Bool := fun _ ds => decide (uptoBulkAll ds ≤ 1048576)
def OpenSpec.upto (s : _root_.Go.ChangeSpec) : _root_.Go.OpenSpec := { _root_.Go.OpenSpec.ofChange s with cond := some uptoSmall }

/-- 'loftblocklaw29.LinesetChecks', WHERE WHAT IT READS IS OF BULK AT MOST 1048576: true; the input reads as it did. -/
def linesetChecksUptoRow : OpenClaim := { program := "ytbhmkcjddpniiaagreatdoor", sum := "bbc96032f5325995c85c31e3feb1e13b4f3170c815c9d561a7e88606c4045662", func := "loftblock/loftblocklaw29.LinesetChecks", spec := "linesetChecks", unfollowed := true, recurses := true, named := ["internal/strconv.uint64pow10", "math/bits.deBruijn32tab", "math/bits.deBruijn64tab"], apart := false, laid := [("math/bits.deBruijn32tab", laid_math_bits_deBruijn32tab), ("math/bits.deBruijn64tab", laid_math_bits_deBruijn64tab), ("internal/strconv.uint64pow10", laid_internal_strconv_uint64pow10)], narrowed := true }
def LinesetChecksUptoSaid : Prop := linesetChecksUptoRow.holds Tryz.pinned (OpenSpec.upto linesetChecksSpec)

/-- 'loftblocklaw49.VersionsApart', WHERE WHAT IT READS IS OF BULK AT MOST 1048576: true; the input reads as it did. -/
def versionsApartUptoRow : OpenClaim := { program := "ytbhmkcjddpniiaagreatdoor", sum := "bbc96032f5325995c85c31e3feb1e13b4f3170c815c9d561a7e88606c4045662", func := "loftblock/loftblocklaw49.VersionsApart", spec := "versionsApart", inPlace := ["internal/abi.NoEscape", "internal/bytealg.MakeNoZero"], unfollowed := true, recurses := true, named := ["internal/strconv.uint64pow10", "math/bits.deBruijn32tab", "math/bits.deBruijn64tab"], apart := false, laid := [("math/bits.deBruijn32tab", laid_math_bits_deBruijn32tab), ("math/bits.deBruijn64tab", laid_math_bits_deBruijn64tab), ("internal/strconv.uint64pow10", laid_internal_strconv_uint64pow10)], narrowed := true }
def VersionsApartUptoSaid : Prop := versionsApartUptoRow.holds Tryz.pinned (OpenSpec.upto versionsApartSpec)

/-- 'loftblocklaw49.VersionsScript', WHERE WHAT IT READS IS OF BULK AT MOST 1048576: true; the input reads as it did. -/
def versionsScriptUptoRow : OpenClaim := { program := "ytbhmkcjddpniiaagreatdoor", sum := "bbc96032f5325995c85c31e3feb1e13b4f3170c815c9d561a7e88606c4045662", func := "loftblock/loftblocklaw49.VersionsScript", spec := "versionsScript", inPlace := ["internal/abi.NoEscape", "internal/bytealg.MakeNoZero"], unfollowed := true, recurses := true, named := ["internal/strconv.uint64pow10", "math/bits.deBruijn32tab", "math/bits.deBruijn64tab"], apart := false, laid := [("math/bits.deBruijn32tab", laid_math_bits_deBruijn32tab), ("math/bits.deBruijn64tab", laid_math_bits_deBruijn64tab), ("internal/strconv.uint64pow10", laid_internal_strconv_uint64pow10)], narrowed := true }
def VersionsScriptUptoSaid : Prop := versionsScriptUptoRow.holds Tryz.pinned (OpenSpec.upto versionsScriptSpec)

/-- 'loftblocklaw49.VersionsZero', WHERE WHAT IT READS IS OF BULK AT MOST 1048576: true; the input reads as it did. -/
def versionsZeroUptoRow : OpenClaim := { program := "ytbhmkcjddpniiaagreatdoor", sum := "bbc96032f5325995c85c31e3feb1e13b4f3170c815c9d561a7e88606c4045662", func := "loftblock/loftblocklaw49.VersionsZero", spec := "versionsZero", inPlace := ["internal/abi.NoEscape", "internal/bytealg.MakeNoZero"], unfollowed := true, recurses := true, named := ["internal/strconv.uint64pow10", "math/bits.deBruijn32tab", "math/bits.deBruijn64tab"], apart := false, laid := [("math/bits.deBruijn32tab", laid_math_bits_deBruijn32tab), ("math/bits.deBruijn64tab", laid_math_bits_deBruijn64tab), ("internal/strconv.uint64pow10", laid_internal_strconv_uint64pow10)], narrowed := true }
def VersionsZeroUptoSaid : Prop := versionsZeroUptoRow.holds Tryz.pinned (OpenSpec.upto versionsZeroSpec)

/-- 'loftblocklaw49.VersionsFollow', WHERE WHAT IT READS IS OF BULK AT MOST 1048576: true; the input reads as it did. -/
def versionsFollowUptoRow : OpenClaim := { program := "ytbhmkcjddpniiaagreatdoor", sum := "bbc96032f5325995c85c31e3feb1e13b4f3170c815c9d561a7e88606c4045662", func := "loftblock/loftblocklaw49.VersionsFollow", spec := "versionsFollow", inPlace := ["internal/abi.NoEscape", "internal/bytealg.MakeNoZero"], unfollowed := true, recurses := true, named := ["internal/strconv.uint64pow10", "math/bits.deBruijn32tab", "math/bits.deBruijn64tab"], apart := false, laid := [("math/bits.deBruijn32tab", laid_math_bits_deBruijn32tab), ("math/bits.deBruijn64tab", laid_math_bits_deBruijn64tab), ("internal/strconv.uint64pow10", laid_internal_strconv_uint64pow10)], narrowed := true }
def VersionsFollowUptoSaid : Prop := versionsFollowUptoRow.holds Tryz.pinned (OpenSpec.upto versionsFollowSpec)

/-- 'loftblocklaw49.VersionsUndone', WHERE WHAT IT READS IS OF BULK AT MOST 1048576: true; the input reads as it did. -/
def versionsUndoneUptoRow : OpenClaim := { program := "ytbhmkcjddpniiaagreatdoor", sum := "bbc96032f5325995c85c31e3feb1e13b4f3170c815c9d561a7e88606c4045662", func := "loftblock/loftblocklaw49.VersionsUndone", spec := "versionsUndone", inPlace := ["internal/abi.NoEscape", "internal/bytealg.MakeNoZero"], unfollowed := true, recurses := true, named := ["internal/strconv.uint64pow10", "math/bits.deBruijn32tab", "math/bits.deBruijn64tab"], apart := false, laid := [("math/bits.deBruijn32tab", laid_math_bits_deBruijn32tab), ("math/bits.deBruijn64tab", laid_math_bits_deBruijn64tab), ("internal/strconv.uint64pow10", laid_internal_strconv_uint64pow10)], narrowed := true }
def VersionsUndoneUptoSaid : Prop := versionsUndoneUptoRow.holds Tryz.pinned (OpenSpec.upto versionsUndoneSpec)

/-- 'loftblocklaw49.VersionsOthers', WHERE WHAT IT READS IS OF BULK AT MOST 1048576: true; the input reads as it did. -/
def versionsOthersUptoRow : OpenClaim := { program := "ytbhmkcjddpniiaagreatdoor", sum := "bbc96032f5325995c85c31e3feb1e13b4f3170c815c9d561a7e88606c4045662", func := "loftblock/loftblocklaw49.VersionsOthers", spec := "versionsOthers", inPlace := ["internal/abi.NoEscape", "internal/bytealg.MakeNoZero"], unfollowed := true, recurses := true, named := ["internal/strconv.uint64pow10", "math/bits.deBruijn32tab", "math/bits.deBruijn64tab"], apart := false, laid := [("math/bits.deBruijn32tab", laid_math_bits_deBruijn32tab), ("math/bits.deBruijn64tab", laid_math_bits_deBruijn64tab), ("internal/strconv.uint64pow10", laid_internal_strconv_uint64pow10)], narrowed := true }
def VersionsOthersUptoSaid : Prop := versionsOthersUptoRow.holds Tryz.pinned (OpenSpec.upto versionsOthersSpec)

/-- 'loftblocklaw29.LinesetTexts', WHERE WHAT IT READS IS OF BULK AT MOST 1048576: true; the input reads as it did. -/
def linesetTextsUptoRow : OpenClaim := { program := "ytbhmkcjddpniiaagreatdoor", sum := "bbc96032f5325995c85c31e3feb1e13b4f3170c815c9d561a7e88606c4045662", func := "loftblock/loftblocklaw29.LinesetTexts", spec := "linesetTexts", inPlace := ["internal/abi.NoEscape", "internal/bytealg.MakeNoZero"], unfollowed := true, recurses := true, named := ["internal/strconv.uint64pow10", "math/bits.deBruijn32tab", "math/bits.deBruijn64tab"], apart := false, laid := [("math/bits.deBruijn32tab", laid_math_bits_deBruijn32tab), ("math/bits.deBruijn64tab", laid_math_bits_deBruijn64tab), ("internal/strconv.uint64pow10", laid_internal_strconv_uint64pow10)], narrowed := true }
def LinesetTextsUptoSaid : Prop := linesetTextsUptoRow.holds Tryz.pinned (OpenSpec.upto linesetTextsSpec)

/-- 'loftblocklaw29.LinesetDiffers', WHERE WHAT IT READS IS OF BULK AT MOST 1048576: true; the input reads as it did. -/
def linesetDiffersUptoRow : OpenClaim := { program := "ytbhmkcjddpniiaagreatdoor", sum := "bbc96032f5325995c85c31e3feb1e13b4f3170c815c9d561a7e88606c4045662", func := "loftblock/loftblocklaw29.LinesetDiffers", spec := "linesetDiffers", inPlace := ["internal/abi.NoEscape", "internal/bytealg.MakeNoZero", "internal/bytealg.CountString", "internal/bytealg.IndexByteString", "internal/bytealg.IndexString"], unfollowed := true, recurses := true, named := ["internal/strconv.uint64pow10", "math/bits.deBruijn32tab", "math/bits.deBruijn64tab", "internal/bytealg.MaxLen"], apart := false, laid := [("math/bits.deBruijn32tab", laid_math_bits_deBruijn32tab), ("math/bits.deBruijn64tab", laid_math_bits_deBruijn64tab), ("internal/strconv.uint64pow10", laid_internal_strconv_uint64pow10)], narrowed := true }
def LinesetDiffersUptoSaid : Prop := linesetDiffersUptoRow.holds Tryz.pinned (OpenSpec.upto linesetDiffersSpec)

end Rows
end Go.Proofs.YtbhmkcjddpniiaaGreatDoor
