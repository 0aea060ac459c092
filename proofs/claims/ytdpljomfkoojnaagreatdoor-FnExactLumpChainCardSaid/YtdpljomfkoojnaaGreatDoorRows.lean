/-
  NARROWER THAN 'FOR EVERY INPUT', by the rows' own cells (each row's printed sentence says how): FnExactClassesOf: laid · FnExactToWeights: laid · FnExactClosedClasses: laid · FnExactPeriodOf: laid · FnExactIsReversible: laid · FnExactJumpChain: laid · FnExactAfterSteps: laid · FnExactLazyChain: laid · FnExactLumpChain: laid · FnExactReverseChain: laid · FnExactSharesOfRest: laid · FnExactFarFromRest: laid.
  DERIVED. THE GIVEN ROWS OF THIS SEAT. 12 by the template 'for every input the law returns true; each argument reads behind the call as it read before'; 0 by the template 'total and deterministic' (their statements: YtdpljomfkoojnaaGreatDoorTotals.lean).
  GIVEN WITH THE SEED: the statements are not yours to turn. If you find one false, say at which input.
  Laid BY PROGRAM, IN A SANDBOX (cutbox-rows.mjs): the forced cells as the released guide's own fill.sh prints them over the translation 63df18ceafda19ad… (all of the seat's roots in one cut). By AI agents, Wed Nov 11 2026. No macro, syntax, notation, axiom, sorry.
-/
import Derived.Test.YtdpljomfkoojnaaGreatDoorChecked
import GoSem.Claim
import GoSem.ClaimJoined
import GoSem.ClaimMapViews
import Derived.JoinedTies
import Derived.KernelRfl
namespace Go.Proofs.YtdpljomfkoojnaaGreatDoor
/- THE CELL 'sum', in the pinned program and in every row, IS THE sha256 OF THE DUMP (.gsa) THAT YtdpljomfkoojnaaGreatDoorProg.lean LOADS. Nothing in Lean hashes anything: it is a label: what it is worth is what the hold of that sum in a sandbox is worth. -/
noncomputable def Tryz.pinned : Pinned := { name := "ytdpljomfkoojnaagreatdoor", sum := "63df18ceafda19adeacc12f7e8be9cfc00e09963a107ccc3af00d6f5e6d6266f", checked := Tryz.checked }
namespace Rows
def none {H : Type} : Left H := { results := [], args := [] }

/- WHAT THE LISTED PACKAGE-LEVEL VARIABLES READ AS WHEN THE CALL BEGINS. Each datum BY PROGRAM (the guide's laid-datum.mjs) off the statement by which the dump's own 'gosem.cut.vars' lays the variable. In a bare row this is a premise. The card (YtdpljomfkoojnaaGreatDoorCards.lean) ties it to the program's text. -/
def laid_math_bits_deBruijn32tab {H : Type} : DataW H := .agg [.lit (.int .u8 0), .lit (.int .u8 1), .lit (.int .u8 28), .lit (.int .u8 2), .lit (.int .u8 29), .lit (.int .u8 14), .lit (.int .u8 24), .lit (.int .u8 3), .lit (.int .u8 30), .lit (.int .u8 22), .lit (.int .u8 20), .lit (.int .u8 15), .lit (.int .u8 25), .lit (.int .u8 17), .lit (.int .u8 4), .lit (.int .u8 8), .lit (.int .u8 31), .lit (.int .u8 27), .lit (.int .u8 13), .lit (.int .u8 23), .lit (.int .u8 21), .lit (.int .u8 19), .lit (.int .u8 16), .lit (.int .u8 7), .lit (.int .u8 26), .lit (.int .u8 12), .lit (.int .u8 18), .lit (.int .u8 6), .lit (.int .u8 11), .lit (.int .u8 5), .lit (.int .u8 10), .lit (.int .u8 9)]
def laid_math_bits_deBruijn64tab {H : Type} : DataW H := .agg [.lit (.int .u8 0), .lit (.int .u8 1), .lit (.int .u8 56), .lit (.int .u8 2), .lit (.int .u8 57), .lit (.int .u8 49), .lit (.int .u8 28), .lit (.int .u8 3), .lit (.int .u8 61), .lit (.int .u8 58), .lit (.int .u8 42), .lit (.int .u8 50), .lit (.int .u8 38), .lit (.int .u8 29), .lit (.int .u8 17), .lit (.int .u8 4), .lit (.int .u8 62), .lit (.int .u8 47), .lit (.int .u8 59), .lit (.int .u8 36), .lit (.int .u8 45), .lit (.int .u8 43), .lit (.int .u8 51), .lit (.int .u8 22), .lit (.int .u8 53), .lit (.int .u8 39), .lit (.int .u8 33), .lit (.int .u8 30), .lit (.int .u8 24), .lit (.int .u8 18), .lit (.int .u8 12), .lit (.int .u8 5), .lit (.int .u8 63), .lit (.int .u8 55), .lit (.int .u8 48), .lit (.int .u8 27), .lit (.int .u8 60), .lit (.int .u8 41), .lit (.int .u8 37), .lit (.int .u8 16), .lit (.int .u8 46), .lit (.int .u8 35), .lit (.int .u8 44), .lit (.int .u8 21), .lit (.int .u8 52), .lit (.int .u8 32), .lit (.int .u8 23), .lit (.int .u8 11), .lit (.int .u8 54), .lit (.int .u8 26), .lit (.int .u8 40), .lit (.int .u8 15), .lit (.int .u8 34), .lit (.int .u8 20), .lit (.int .u8 31), .lit (.int .u8 10), .lit (.int .u8 25), .lit (.int .u8 14), .lit (.int .u8 19), .lit (.int .u8 9), .lit (.int .u8 13), .lit (.int .u8 8), .lit (.int .u8 7), .lit (.int .u8 6)]
def laid_internal_strconv_uint64pow10 {H : Type} : DataW H := .agg [.lit (.int .u64 1), .lit (.int .u64 10), .lit (.int .u64 100), .lit (.int .u64 1000), .lit (.int .u64 10000), .lit (.int .u64 100000), .lit (.int .u64 1000000), .lit (.int .u64 10000000), .lit (.int .u64 100000000), .lit (.int .u64 1000000000), .lit (.int .u64 10000000000), .lit (.int .u64 100000000000), .lit (.int .u64 1000000000000), .lit (.int .u64 10000000000000), .lit (.int .u64 100000000000000), .lit (.int .u64 1000000000000000), .lit (.int .u64 10000000000000000), .lit (.int .u64 100000000000000000), .lit (.int .u64 1000000000000000000), .lit (.int .u64 10000000000000000000)]
def laid_strconv_ErrRange {H : Type} : DataW H := .iface "*errors.errorString" (.ptr (.agg [.lit (.string [118, 97, 108, 117, 101, 32, 111, 117, 116, 32, 111, 102, 32, 114, 97, 110, 103, 101])]))
def laid_strconv_ErrSyntax {H : Type} : DataW H := .iface "*errors.errorString" (.ptr (.agg [.lit (.string [105, 110, 118, 97, 108, 105, 100, 32, 115, 121, 110, 116, 97, 120])]))

/-- 'laws.FnExactClassesOf': WHATEVER THE INPUT: true; the input reads as it did. -/
def fnExactClassesOfSpec : ChangeSpec := { name := "fnExactClassesOf", fn := fun _ => fun
  | [d] => { results := [.lit (.bool true)], args := [d] }
  | _ => none }
def fnExactClassesOfRow : OpenClaim := { program := "ytdpljomfkoojnaagreatdoor", sum := "63df18ceafda19adeacc12f7e8be9cfc00e09963a107ccc3af00d6f5e6d6266f", func := "loop.example/g01211/laws.FnExactClassesOf", spec := "fnExactClassesOf", inPlace := ["internal/bytealg.IndexByteString", "internal/bytealg.IndexString"], unfollowed := true, recurses := true, named := ["internal/bytealg.MaxLen", "strconv.ErrSyntax", "strconv.ErrRange", "internal/strconv.uint64pow10", "math/bits.deBruijn32tab", "math/bits.deBruijn64tab"], apart := false, laid := [("math/bits.deBruijn32tab", laid_math_bits_deBruijn32tab), ("math/bits.deBruijn64tab", laid_math_bits_deBruijn64tab), ("internal/strconv.uint64pow10", laid_internal_strconv_uint64pow10), ("strconv.ErrRange", laid_strconv_ErrRange), ("strconv.ErrSyntax", laid_strconv_ErrSyntax)] }
def FnExactClassesOfSaid : Prop := fnExactClassesOfRow.holds Tryz.pinned (OpenSpec.ofChange fnExactClassesOfSpec)

/-- ITS FALSE NEIGHBOUR: 'it returns false'. Refute it at one input. -/
def fnExactClassesOfWrong : ChangeSpec := { name := "fnExactClassesOf", fn := fun _ => fun
  | [d] => { results := [.lit (.bool false)], args := [d] }
  | _ => none }
def FnExactClassesOfWrongFalsely : Prop := fnExactClassesOfRow.holds Tryz.pinned (OpenSpec.ofChange fnExactClassesOfWrong)

/-- 'laws.FnExactToWeights': WHATEVER THE INPUT: true; the input reads as it did. -/
def fnExactToWeightsSpec : ChangeSpec := { name := "fnExactToWeights", fn := fun _ => fun
  | [d] => { results := [.lit (.bool true)], args := [d] }
  | _ => none }
def fnExactToWeightsRow : OpenClaim := { program := "ytdpljomfkoojnaagreatdoor", sum := "63df18ceafda19adeacc12f7e8be9cfc00e09963a107ccc3af00d6f5e6d6266f", func := "loop.example/g01211/laws.FnExactToWeights", spec := "fnExactToWeights", inPlace := ["internal/bytealg.IndexByteString", "internal/bytealg.IndexString", "internal/abi.NoEscape", "internal/bytealg.MakeNoZero"], unfollowed := true, recurses := true, named := ["internal/bytealg.MaxLen", "strconv.ErrSyntax", "strconv.ErrRange", "internal/strconv.uint64pow10", "math/bits.deBruijn32tab", "math/bits.deBruijn64tab"], apart := false, laid := [("math/bits.deBruijn32tab", laid_math_bits_deBruijn32tab), ("math/bits.deBruijn64tab", laid_math_bits_deBruijn64tab), ("internal/strconv.uint64pow10", laid_internal_strconv_uint64pow10), ("strconv.ErrRange", laid_strconv_ErrRange), ("strconv.ErrSyntax", laid_strconv_ErrSyntax)] }
def FnExactToWeightsSaid : Prop := fnExactToWeightsRow.holds Tryz.pinned (OpenSpec.ofChange fnExactToWeightsSpec)

/-- ITS FALSE NEIGHBOUR: 'it returns false'. Refute it at one input. -/
def fnExactToWeightsWrong : ChangeSpec := { name := "fnExactToWeights", fn := fun _ => fun
  | [d] => { results := [.lit (.bool false)], args := [d] }
  | _ => none }
def FnExactToWeightsWrongFalsely : Prop := fnExactToWeightsRow.holds Tryz.pinned (OpenSpec.ofChange fnExactToWeightsWrong)

/-- 'laws.FnExactClosedClasses': WHATEVER THE INPUT: true; the input reads as it did. -/
def fnExactClosedClassesSpec : ChangeSpec := { name := "fnExactClosedClasses", fn := fun _ => fun
  | [d] => { results := [.lit (.bool true)], args := [d] }
  | _ => none }
def fnExactClosedClassesRow : OpenClaim := { program := "ytdpljomfkoojnaagreatdoor", sum := "63df18ceafda19adeacc12f7e8be9cfc00e09963a107ccc3af00d6f5e6d6266f", func := "loop.example/g01211/laws.FnExactClosedClasses", spec := "fnExactClosedClasses", inPlace := ["internal/bytealg.IndexByteString", "internal/bytealg.IndexString"], unfollowed := true, recurses := true, named := ["internal/bytealg.MaxLen", "strconv.ErrSyntax", "strconv.ErrRange", "internal/strconv.uint64pow10", "math/bits.deBruijn32tab", "math/bits.deBruijn64tab"], apart := false, laid := [("math/bits.deBruijn32tab", laid_math_bits_deBruijn32tab), ("math/bits.deBruijn64tab", laid_math_bits_deBruijn64tab), ("internal/strconv.uint64pow10", laid_internal_strconv_uint64pow10), ("strconv.ErrRange", laid_strconv_ErrRange), ("strconv.ErrSyntax", laid_strconv_ErrSyntax)] }
def FnExactClosedClassesSaid : Prop := fnExactClosedClassesRow.holds Tryz.pinned (OpenSpec.ofChange fnExactClosedClassesSpec)

/-- ITS FALSE NEIGHBOUR: 'it returns false'. Refute it at one input. -/
def fnExactClosedClassesWrong : ChangeSpec := { name := "fnExactClosedClasses", fn := fun _ => fun
  | [d] => { results := [.lit (.bool false)], args := [d] }
  | _ => none }
def FnExactClosedClassesWrongFalsely : Prop := fnExactClosedClassesRow.holds Tryz.pinned (OpenSpec.ofChange fnExactClosedClassesWrong)

/-- 'laws.FnExactPeriodOf': WHATEVER THE INPUT: true; the input reads as it did. -/
def fnExactPeriodOfSpec : ChangeSpec := { name := "fnExactPeriodOf", fn := fun _ => fun
  | [d1, d2] => { results := [.lit (.bool true)], args := [d1, d2] }
  | _ => none }
def fnExactPeriodOfRow : OpenClaim := { program := "ytdpljomfkoojnaagreatdoor", sum := "63df18ceafda19adeacc12f7e8be9cfc00e09963a107ccc3af00d6f5e6d6266f", func := "loop.example/g01211/laws.FnExactPeriodOf", spec := "fnExactPeriodOf", inPlace := ["internal/bytealg.IndexByteString", "internal/bytealg.IndexString"], unfollowed := true, recurses := true, named := ["internal/bytealg.MaxLen", "strconv.ErrSyntax", "strconv.ErrRange", "internal/strconv.uint64pow10", "math/bits.deBruijn32tab", "math/bits.deBruijn64tab"], apart := false, laid := [("math/bits.deBruijn32tab", laid_math_bits_deBruijn32tab), ("math/bits.deBruijn64tab", laid_math_bits_deBruijn64tab), ("internal/strconv.uint64pow10", laid_internal_strconv_uint64pow10), ("strconv.ErrRange", laid_strconv_ErrRange), ("strconv.ErrSyntax", laid_strconv_ErrSyntax)] }
def FnExactPeriodOfSaid : Prop := fnExactPeriodOfRow.holds Tryz.pinned (OpenSpec.ofChange fnExactPeriodOfSpec)

/-- ITS FALSE NEIGHBOUR: 'it returns false'. Refute it at one input. -/
def fnExactPeriodOfWrong : ChangeSpec := { name := "fnExactPeriodOf", fn := fun _ => fun
  | [d1, d2] => { results := [.lit (.bool false)], args := [d1, d2] }
  | _ => none }
def FnExactPeriodOfWrongFalsely : Prop := fnExactPeriodOfRow.holds Tryz.pinned (OpenSpec.ofChange fnExactPeriodOfWrong)

/-- 'laws.FnExactIsReversible': WHATEVER THE INPUT: true; the input reads as it did. -/
def fnExactIsReversibleSpec : ChangeSpec := { name := "fnExactIsReversible", fn := fun _ => fun
  | [d] => { results := [.lit (.bool true)], args := [d] }
  | _ => none }
def fnExactIsReversibleRow : OpenClaim := { program := "ytdpljomfkoojnaagreatdoor", sum := "63df18ceafda19adeacc12f7e8be9cfc00e09963a107ccc3af00d6f5e6d6266f", func := "loop.example/g01211/laws.FnExactIsReversible", spec := "fnExactIsReversible", inPlace := ["internal/bytealg.IndexByteString", "internal/bytealg.IndexString"], unfollowed := true, recurses := true, named := ["internal/bytealg.MaxLen", "strconv.ErrSyntax", "strconv.ErrRange", "internal/strconv.uint64pow10", "math/bits.deBruijn32tab", "math/bits.deBruijn64tab"], apart := false, laid := [("math/bits.deBruijn32tab", laid_math_bits_deBruijn32tab), ("math/bits.deBruijn64tab", laid_math_bits_deBruijn64tab), ("internal/strconv.uint64pow10", laid_internal_strconv_uint64pow10), ("strconv.ErrRange", laid_strconv_ErrRange), ("strconv.ErrSyntax", laid_strconv_ErrSyntax)] }
def FnExactIsReversibleSaid : Prop := fnExactIsReversibleRow.holds Tryz.pinned (OpenSpec.ofChange fnExactIsReversibleSpec)

/-- ITS FALSE NEIGHBOUR: 'it returns false'. Refute it at one input. -/
def fnExactIsReversibleWrong : ChangeSpec := { name := "fnExactIsReversible", fn := fun _ => fun
  | [d] => { results := [.lit (.bool false)], args := [d] }
  | _ => none }
def FnExactIsReversibleWrongFalsely : Prop := fnExactIsReversibleRow.holds Tryz.pinned (OpenSpec.ofChange fnExactIsReversibleWrong)

/-- 'laws.FnExactJumpChain': WHATEVER THE INPUT: true; the input reads as it did. -/
def fnExactJumpChainSpec : ChangeSpec := { name := "fnExactJumpChain", fn := fun _ => fun
  | [d] => { results := [.lit (.bool true)], args := [d] }
  | _ => none }
def fnExactJumpChainRow : OpenClaim := { program := "ytdpljomfkoojnaagreatdoor", sum := "63df18ceafda19adeacc12f7e8be9cfc00e09963a107ccc3af00d6f5e6d6266f", func := "loop.example/g01211/laws.FnExactJumpChain", spec := "fnExactJumpChain", inPlace := ["internal/bytealg.IndexByteString", "internal/bytealg.IndexString", "internal/abi.NoEscape", "internal/bytealg.MakeNoZero"], unfollowed := true, recurses := true, named := ["internal/bytealg.MaxLen", "strconv.ErrSyntax", "strconv.ErrRange", "internal/strconv.uint64pow10", "math/bits.deBruijn32tab", "math/bits.deBruijn64tab"], apart := false, laid := [("math/bits.deBruijn32tab", laid_math_bits_deBruijn32tab), ("math/bits.deBruijn64tab", laid_math_bits_deBruijn64tab), ("internal/strconv.uint64pow10", laid_internal_strconv_uint64pow10), ("strconv.ErrRange", laid_strconv_ErrRange), ("strconv.ErrSyntax", laid_strconv_ErrSyntax)] }
def FnExactJumpChainSaid : Prop := fnExactJumpChainRow.holds Tryz.pinned (OpenSpec.ofChange fnExactJumpChainSpec)

/-- ITS FALSE NEIGHBOUR: 'it returns false'. Refute it at one input. -/
def fnExactJumpChainWrong : ChangeSpec := { name := "fnExactJumpChain", fn := fun _ => fun
  | [d] => { results := [.lit (.bool false)], args := [d] }
  | _ => none }
def FnExactJumpChainWrongFalsely : Prop := fnExactJumpChainRow.holds Tryz.pinned (OpenSpec.ofChange fnExactJumpChainWrong)

/-- 'laws.FnExactAfterSteps': WHATEVER THE INPUT: true; the input reads as it did. -/
def fnExactAfterStepsSpec : ChangeSpec := { name := "fnExactAfterSteps", fn := fun _ => fun
  | [d1, d2, d3] => { results := [.lit (.bool true)], args := [d1, d2, d3] }
  | _ => none }
def fnExactAfterStepsRow : OpenClaim := { program := "ytdpljomfkoojnaagreatdoor", sum := "63df18ceafda19adeacc12f7e8be9cfc00e09963a107ccc3af00d6f5e6d6266f", func := "loop.example/g01211/laws.FnExactAfterSteps", spec := "fnExactAfterSteps", inPlace := ["internal/bytealg.IndexByteString", "internal/bytealg.IndexString", "internal/abi.NoEscape", "internal/bytealg.MakeNoZero"], unfollowed := true, recurses := true, named := ["internal/bytealg.MaxLen", "strconv.ErrSyntax", "strconv.ErrRange", "internal/strconv.uint64pow10", "math/bits.deBruijn32tab", "math/bits.deBruijn64tab"], apart := false, laid := [("math/bits.deBruijn32tab", laid_math_bits_deBruijn32tab), ("math/bits.deBruijn64tab", laid_math_bits_deBruijn64tab), ("internal/strconv.uint64pow10", laid_internal_strconv_uint64pow10), ("strconv.ErrRange", laid_strconv_ErrRange), ("strconv.ErrSyntax", laid_strconv_ErrSyntax)] }
def FnExactAfterStepsSaid : Prop := fnExactAfterStepsRow.holds Tryz.pinned (OpenSpec.ofChange fnExactAfterStepsSpec)

/-- ITS FALSE NEIGHBOUR: 'it returns false'. Refute it at one input. -/
def fnExactAfterStepsWrong : ChangeSpec := { name := "fnExactAfterSteps", fn := fun _ => fun
  | [d1, d2, d3] => { results := [.lit (.bool false)], args := [d1, d2, d3] }
  | _ => none }
def FnExactAfterStepsWrongFalsely : Prop := fnExactAfterStepsRow.holds Tryz.pinned (OpenSpec.ofChange fnExactAfterStepsWrong)

/-- 'laws.FnExactLazyChain': WHATEVER THE INPUT: true; the input reads as it did. -/
def fnExactLazyChainSpec : ChangeSpec := { name := "fnExactLazyChain", fn := fun _ => fun
  | [d1, d2] => { results := [.lit (.bool true)], args := [d1, d2] }
  | _ => none }
def fnExactLazyChainRow : OpenClaim := { program := "ytdpljomfkoojnaagreatdoor", sum := "63df18ceafda19adeacc12f7e8be9cfc00e09963a107ccc3af00d6f5e6d6266f", func := "loop.example/g01211/laws.FnExactLazyChain", spec := "fnExactLazyChain", inPlace := ["internal/bytealg.IndexByteString", "internal/bytealg.IndexString", "internal/abi.NoEscape", "internal/bytealg.MakeNoZero"], unfollowed := true, recurses := true, named := ["internal/bytealg.MaxLen", "strconv.ErrSyntax", "strconv.ErrRange", "internal/strconv.uint64pow10", "math/bits.deBruijn32tab", "math/bits.deBruijn64tab"], apart := false, laid := [("math/bits.deBruijn32tab", laid_math_bits_deBruijn32tab), ("math/bits.deBruijn64tab", laid_math_bits_deBruijn64tab), ("internal/strconv.uint64pow10", laid_internal_strconv_uint64pow10), ("strconv.ErrRange", laid_strconv_ErrRange), ("strconv.ErrSyntax", laid_strconv_ErrSyntax)] }
def FnExactLazyChainSaid : Prop := fnExactLazyChainRow.holds Tryz.pinned (OpenSpec.ofChange fnExactLazyChainSpec)

/-- ITS FALSE NEIGHBOUR: 'it returns false'. Refute it at one input. -/
def fnExactLazyChainWrong : ChangeSpec := { name := "fnExactLazyChain", fn := fun _ => fun
  | [d1, d2] => { results := [.lit (.bool false)], args := [d1, d2] }
  | _ => none }
def FnExactLazyChainWrongFalsely : Prop := fnExactLazyChainRow.holds Tryz.pinned (OpenSpec.ofChange fnExactLazyChainWrong)

/-- 'laws.FnExactLumpChain': WHATEVER THE INPUT: true; the input reads as it did. -/
def fnExactLumpChainSpec : ChangeSpec := { name := "fnExactLumpChain", fn := fun _ => fun
  | [d1, d2] => { results := [.lit (.bool true)], args := [d1, d2] }
  | _ => none }
def fnExactLumpChainRow : OpenClaim := { program := "ytdpljomfkoojnaagreatdoor", sum := "63df18ceafda19adeacc12f7e8be9cfc00e09963a107ccc3af00d6f5e6d6266f", func := "loop.example/g01211/laws.FnExactLumpChain", spec := "fnExactLumpChain", inPlace := ["internal/bytealg.IndexByteString", "internal/bytealg.IndexString", "internal/abi.NoEscape", "internal/bytealg.MakeNoZero"], unfollowed := true, recurses := true, named := ["internal/bytealg.MaxLen", "strconv.ErrSyntax", "strconv.ErrRange", "internal/strconv.uint64pow10", "math/bits.deBruijn32tab", "math/bits.deBruijn64tab"], apart := false, laid := [("math/bits.deBruijn32tab", laid_math_bits_deBruijn32tab), ("math/bits.deBruijn64tab", laid_math_bits_deBruijn64tab), ("internal/strconv.uint64pow10", laid_internal_strconv_uint64pow10), ("strconv.ErrRange", laid_strconv_ErrRange), ("strconv.ErrSyntax", laid_strconv_ErrSyntax)] }
def FnExactLumpChainSaid : Prop := fnExactLumpChainRow.holds Tryz.pinned (OpenSpec.ofChange fnExactLumpChainSpec)

/-- ITS FALSE NEIGHBOUR: 'it returns false'. Refute it at one input. -/
def fnExactLumpChainWrong : ChangeSpec := { name := "fnExactLumpChain", fn := fun _ => fun
  | [d1, d2] => { results := [.lit (.bool false)], args := [d1, d2] }
  | _ => none }
def FnExactLumpChainWrongFalsely : Prop := fnExactLumpChainRow.holds Tryz.pinned (OpenSpec.ofChange fnExactLumpChainWrong)

/-- 'laws.FnExactReverseChain': WHATEVER THE INPUT: true; the input reads as it did. -/
def fnExactReverseChainSpec : ChangeSpec := { name := "fnExactReverseChain", fn := fun _ => fun
  | [d] => { results := [.lit (.bool true)], args := [d] }
  | _ => none }
def fnExactReverseChainRow : OpenClaim := { program := "ytdpljomfkoojnaagreatdoor", sum := "63df18ceafda19adeacc12f7e8be9cfc00e09963a107ccc3af00d6f5e6d6266f", func := "loop.example/g01211/laws.FnExactReverseChain", spec := "fnExactReverseChain", inPlace := ["internal/bytealg.IndexByteString", "internal/bytealg.IndexString", "internal/abi.NoEscape", "internal/bytealg.MakeNoZero"], unfollowed := true, recurses := true, named := ["internal/bytealg.MaxLen", "strconv.ErrSyntax", "strconv.ErrRange", "internal/strconv.uint64pow10", "math/bits.deBruijn32tab", "math/bits.deBruijn64tab"], apart := false, laid := [("math/bits.deBruijn32tab", laid_math_bits_deBruijn32tab), ("math/bits.deBruijn64tab", laid_math_bits_deBruijn64tab), ("internal/strconv.uint64pow10", laid_internal_strconv_uint64pow10), ("strconv.ErrRange", laid_strconv_ErrRange), ("strconv.ErrSyntax", laid_strconv_ErrSyntax)] }
def FnExactReverseChainSaid : Prop := fnExactReverseChainRow.holds Tryz.pinned (OpenSpec.ofChange fnExactReverseChainSpec)

/-- ITS FALSE NEIGHBOUR: 'it returns false'. Refute it at one input. -/
def fnExactReverseChainWrong : ChangeSpec := { name := "fnExactReverseChain", fn := fun _ => fun
  | [d] => { results := [.lit (.bool false)], args := [d] }
  | _ => none }
def FnExactReverseChainWrongFalsely : Prop := fnExactReverseChainRow.holds Tryz.pinned (OpenSpec.ofChange fnExactReverseChainWrong)

/-- 'laws.FnExactSharesOfRest': WHATEVER THE INPUT: true; the input reads as it did. -/
def fnExactSharesOfRestSpec : ChangeSpec := { name := "fnExactSharesOfRest", fn := fun _ => fun
  | [d] => { results := [.lit (.bool true)], args := [d] }
  | _ => none }
def fnExactSharesOfRestRow : OpenClaim := { program := "ytdpljomfkoojnaagreatdoor", sum := "63df18ceafda19adeacc12f7e8be9cfc00e09963a107ccc3af00d6f5e6d6266f", func := "loop.example/g01211/laws.FnExactSharesOfRest", spec := "fnExactSharesOfRest", inPlace := ["internal/bytealg.IndexByteString", "internal/bytealg.IndexString", "internal/abi.NoEscape", "internal/bytealg.MakeNoZero"], unfollowed := true, recurses := true, named := ["internal/bytealg.MaxLen", "strconv.ErrSyntax", "strconv.ErrRange", "internal/strconv.uint64pow10", "math/bits.deBruijn32tab", "math/bits.deBruijn64tab"], apart := false, laid := [("math/bits.deBruijn32tab", laid_math_bits_deBruijn32tab), ("math/bits.deBruijn64tab", laid_math_bits_deBruijn64tab), ("internal/strconv.uint64pow10", laid_internal_strconv_uint64pow10), ("strconv.ErrRange", laid_strconv_ErrRange), ("strconv.ErrSyntax", laid_strconv_ErrSyntax)] }
def FnExactSharesOfRestSaid : Prop := fnExactSharesOfRestRow.holds Tryz.pinned (OpenSpec.ofChange fnExactSharesOfRestSpec)

/-- ITS FALSE NEIGHBOUR: 'it returns false'. Refute it at one input. -/
def fnExactSharesOfRestWrong : ChangeSpec := { name := "fnExactSharesOfRest", fn := fun _ => fun
  | [d] => { results := [.lit (.bool false)], args := [d] }
  | _ => none }
def FnExactSharesOfRestWrongFalsely : Prop := fnExactSharesOfRestRow.holds Tryz.pinned (OpenSpec.ofChange fnExactSharesOfRestWrong)

/-- 'laws.FnExactFarFromRest': WHATEVER THE INPUT: true; the input reads as it did. -/
def fnExactFarFromRestSpec : ChangeSpec := { name := "fnExactFarFromRest", fn := fun _ => fun
  | [d1, d2, d3] => { results := [.lit (.bool true)], args := [d1, d2, d3] }
  | _ => none }
def fnExactFarFromRestRow : OpenClaim := { program := "ytdpljomfkoojnaagreatdoor", sum := "63df18ceafda19adeacc12f7e8be9cfc00e09963a107ccc3af00d6f5e6d6266f", func := "loop.example/g01211/laws.FnExactFarFromRest", spec := "fnExactFarFromRest", inPlace := ["internal/bytealg.IndexByteString", "internal/bytealg.IndexString", "internal/abi.NoEscape", "internal/bytealg.MakeNoZero"], unfollowed := true, recurses := true, named := ["internal/bytealg.MaxLen", "strconv.ErrSyntax", "strconv.ErrRange", "internal/strconv.uint64pow10", "math/bits.deBruijn32tab", "math/bits.deBruijn64tab"], apart := false, laid := [("math/bits.deBruijn32tab", laid_math_bits_deBruijn32tab), ("math/bits.deBruijn64tab", laid_math_bits_deBruijn64tab), ("internal/strconv.uint64pow10", laid_internal_strconv_uint64pow10), ("strconv.ErrRange", laid_strconv_ErrRange), ("strconv.ErrSyntax", laid_strconv_ErrSyntax)] }
def FnExactFarFromRestSaid : Prop := fnExactFarFromRestRow.holds Tryz.pinned (OpenSpec.ofChange fnExactFarFromRestSpec)

/-- ITS FALSE NEIGHBOUR: 'it returns false'. Refute it at one input. -/
def fnExactFarFromRestWrong : ChangeSpec := { name := "fnExactFarFromRest", fn := fun _ => fun
  | [d1, d2, d3] => { results := [.lit (.bool false)], args := [d1, d2, d3] }
  | _ => none }
def FnExactFarFromRestWrongFalsely : Prop := fnExactFarFromRestRow.holds Tryz.pinned (OpenSpec.ofChange fnExactFarFromRestWrong)

/- THE SECOND FORM. 'bulk': how many values and letters a reading holds, each counted each time it is reached (what is shared counts as often as it is met; a slice's spare places count too). A statement '..UptoSaid' is the law's where the arguments, and the package variables that the reading takes, are together of bulk at most 1048576: NARROWER than '..Said'. Prove '..Said' where nothing that the law and all that it calls make is longer than what came in: it says more and counts as full. Else prove '..UptoSaid'. A law counts once. -/
mutual
def uptoBulk {H : Type} : DataW H → Nat
  | .lit (.string bytes) => bytes.length + 1
  | .lit _ => 1
  | .nil => 1
  | .ptr d => uptoBulk d + 1
  | .slice elems spare => uptoBulkAll elems + uptoBulkAll spare + 1
  | .agg parts => uptoBulkAll parts + 1
  | .iface _ d => uptoBulk d + 1
  | .map entries => uptoBulkEntries entries + 1
  | .held _ => 1
def uptoBulkAll {H : Type} : List (DataW H) → Nat
  | [] => 0
  | d :: r => uptoBulk d + uptoBulkAll r
def uptoBulkEntries {H : Type} : List (Lit × DataW H) → Nat
  | [] => 0
  | x :: r => uptoBulkEntry x + uptoBulkEntries r
def uptoBulkEntry {H : Type} : Lit × DataW H → Nat
  | (.string bytes, d) => bytes.length + uptoBulk d + 1
  | (_, d) => uptoBulk d + 1
 end
def uptoSmall : (H : Type) → List (DataW H) → Bool := fun _ ds => decide (uptoBulkAll ds ≤ 1048576)
def OpenSpec.upto (s : _root_.Go.ChangeSpec) : _root_.Go.OpenSpec := { _root_.Go.OpenSpec.ofChange s with cond := some uptoSmall }

/-- 'laws.FnExactClassesOf', WHERE WHAT IT READS IS OF BULK AT MOST 1048576: true; the input reads as it did. -/
def fnExactClassesOfUptoRow : OpenClaim := { program := "ytdpljomfkoojnaagreatdoor", sum := "63df18ceafda19adeacc12f7e8be9cfc00e09963a107ccc3af00d6f5e6d6266f", func := "loop.example/g01211/laws.FnExactClassesOf", spec := "fnExactClassesOf", inPlace := ["internal/bytealg.IndexByteString", "internal/bytealg.IndexString"], unfollowed := true, recurses := true, named := ["internal/bytealg.MaxLen", "strconv.ErrSyntax", "strconv.ErrRange", "internal/strconv.uint64pow10", "math/bits.deBruijn32tab", "math/bits.deBruijn64tab"], apart := false, laid := [("math/bits.deBruijn32tab", laid_math_bits_deBruijn32tab), ("math/bits.deBruijn64tab", laid_math_bits_deBruijn64tab), ("internal/strconv.uint64pow10", laid_internal_strconv_uint64pow10), ("strconv.ErrRange", laid_strconv_ErrRange), ("strconv.ErrSyntax", laid_strconv_ErrSyntax)], narrowed := true }
def FnExactClassesOfUptoSaid : Prop := fnExactClassesOfUptoRow.holds Tryz.pinned (OpenSpec.upto fnExactClassesOfSpec)

/-- 'laws.FnExactToWeights', WHERE WHAT IT READS IS OF BULK AT MOST 1048576: true; the input reads as it did. -/
def fnExactToWeightsUptoRow : OpenClaim := { program := "ytdpljomfkoojnaagreatdoor", sum := "63df18ceafda19adeacc12f7e8be9cfc00e09963a107ccc3af00d6f5e6d6266f", func := "loop.example/g01211/laws.FnExactToWeights", spec := "fnExactToWeights", inPlace := ["internal/bytealg.IndexByteString", "internal/bytealg.IndexString", "internal/abi.NoEscape", "internal/bytealg.MakeNoZero"], unfollowed := true, recurses := true, named := ["internal/bytealg.MaxLen", "strconv.ErrSyntax", "strconv.ErrRange", "internal/strconv.uint64pow10", "math/bits.deBruijn32tab", "math/bits.deBruijn64tab"], apart := false, laid := [("math/bits.deBruijn32tab", laid_math_bits_deBruijn32tab), ("math/bits.deBruijn64tab", laid_math_bits_deBruijn64tab), ("internal/strconv.uint64pow10", laid_internal_strconv_uint64pow10), ("strconv.ErrRange", laid_strconv_ErrRange), ("strconv.ErrSyntax", laid_strconv_ErrSyntax)], narrowed := true }
def FnExactToWeightsUptoSaid : Prop := fnExactToWeightsUptoRow.holds Tryz.pinned (OpenSpec.upto fnExactToWeightsSpec)

/-- 'laws.FnExactClosedClasses', WHERE WHAT IT READS IS OF BULK AT MOST 1048576: true; the input reads as it did. -/
def fnExactClosedClassesUptoRow : OpenClaim := { program := "ytdpljomfkoojnaagreatdoor", sum := "63df18ceafda19adeacc12f7e8be9cfc00e09963a107ccc3af00d6f5e6d6266f", func := "loop.example/g01211/laws.FnExactClosedClasses", spec := "fnExactClosedClasses", inPlace := ["internal/bytealg.IndexByteString", "internal/bytealg.IndexString"], unfollowed := true, recurses := true, named := ["internal/bytealg.MaxLen", "strconv.ErrSyntax", "strconv.ErrRange", "internal/strconv.uint64pow10", "math/bits.deBruijn32tab", "math/bits.deBruijn64tab"], apart := false, laid := [("math/bits.deBruijn32tab", laid_math_bits_deBruijn32tab), ("math/bits.deBruijn64tab", laid_math_bits_deBruijn64tab), ("internal/strconv.uint64pow10", laid_internal_strconv_uint64pow10), ("strconv.ErrRange", laid_strconv_ErrRange), ("strconv.ErrSyntax", laid_strconv_ErrSyntax)], narrowed := true }
def FnExactClosedClassesUptoSaid : Prop := fnExactClosedClassesUptoRow.holds Tryz.pinned (OpenSpec.upto fnExactClosedClassesSpec)

/-- 'laws.FnExactPeriodOf', WHERE WHAT IT READS IS OF BULK AT MOST 1048576: true; the input reads as it did. -/
def fnExactPeriodOfUptoRow : OpenClaim := { program := "ytdpljomfkoojnaagreatdoor", sum := "63df18ceafda19adeacc12f7e8be9cfc00e09963a107ccc3af00d6f5e6d6266f", func := "loop.example/g01211/laws.FnExactPeriodOf", spec := "fnExactPeriodOf", inPlace := ["internal/bytealg.IndexByteString", "internal/bytealg.IndexString"], unfollowed := true, recurses := true, named := ["internal/bytealg.MaxLen", "strconv.ErrSyntax", "strconv.ErrRange", "internal/strconv.uint64pow10", "math/bits.deBruijn32tab", "math/bits.deBruijn64tab"], apart := false, laid := [("math/bits.deBruijn32tab", laid_math_bits_deBruijn32tab), ("math/bits.deBruijn64tab", laid_math_bits_deBruijn64tab), ("internal/strconv.uint64pow10", laid_internal_strconv_uint64pow10), ("strconv.ErrRange", laid_strconv_ErrRange), ("strconv.ErrSyntax", laid_strconv_ErrSyntax)], narrowed := true }
def FnExactPeriodOfUptoSaid : Prop := fnExactPeriodOfUptoRow.holds Tryz.pinned (OpenSpec.upto fnExactPeriodOfSpec)

/-- 'laws.FnExactIsReversible', WHERE WHAT IT READS IS OF BULK AT MOST 1048576: true; the input reads as it did. -/
def fnExactIsReversibleUptoRow : OpenClaim := { program := "ytdpljomfkoojnaagreatdoor", sum := "63df18ceafda19adeacc12f7e8be9cfc00e09963a107ccc3af00d6f5e6d6266f", func := "loop.example/g01211/laws.FnExactIsReversible", spec := "fnExactIsReversible", inPlace := ["internal/bytealg.IndexByteString", "internal/bytealg.IndexString"], unfollowed := true, recurses := true, named := ["internal/bytealg.MaxLen", "strconv.ErrSyntax", "strconv.ErrRange", "internal/strconv.uint64pow10", "math/bits.deBruijn32tab", "math/bits.deBruijn64tab"], apart := false, laid := [("math/bits.deBruijn32tab", laid_math_bits_deBruijn32tab), ("math/bits.deBruijn64tab", laid_math_bits_deBruijn64tab), ("internal/strconv.uint64pow10", laid_internal_strconv_uint64pow10), ("strconv.ErrRange", laid_strconv_ErrRange), ("strconv.ErrSyntax", laid_strconv_ErrSyntax)], narrowed := true }
def FnExactIsReversibleUptoSaid : Prop := fnExactIsReversibleUptoRow.holds Tryz.pinned (OpenSpec.upto fnExactIsReversibleSpec)

/-- 'laws.FnExactJumpChain', WHERE WHAT IT READS IS OF BULK AT MOST 1048576: true; the input reads as it did. -/
def fnExactJumpChainUptoRow : OpenClaim := { program := "ytdpljomfkoojnaagreatdoor", sum := "63df18ceafda19adeacc12f7e8be9cfc00e09963a107ccc3af00d6f5e6d6266f", func := "loop.example/g01211/laws.FnExactJumpChain", spec := "fnExactJumpChain", inPlace := ["internal/bytealg.IndexByteString", "internal/bytealg.IndexString", "internal/abi.NoEscape", "internal/bytealg.MakeNoZero"], unfollowed := true, recurses := true, named := ["internal/bytealg.MaxLen", "strconv.ErrSyntax", "strconv.ErrRange", "internal/strconv.uint64pow10", "math/bits.deBruijn32tab", "math/bits.deBruijn64tab"], apart := false, laid := [("math/bits.deBruijn32tab", laid_math_bits_deBruijn32tab), ("math/bits.deBruijn64tab", laid_math_bits_deBruijn64tab), ("internal/strconv.uint64pow10", laid_internal_strconv_uint64pow10), ("strconv.ErrRange", laid_strconv_ErrRange), ("strconv.ErrSyntax", laid_strconv_ErrSyntax)], narrowed := true }
def FnExactJumpChainUptoSaid : Prop := fnExactJumpChainUptoRow.holds Tryz.pinned (OpenSpec.upto fnExactJumpChainSpec)

/-- 'laws.FnExactAfterSteps', WHERE WHAT IT READS IS OF BULK AT MOST 1048576: true; the input reads as it did. -/
def fnExactAfterStepsUptoRow : OpenClaim := { program := "ytdpljomfkoojnaagreatdoor", sum := "63df18ceafda19adeacc12f7e8be9cfc00e09963a107ccc3af00d6f5e6d6266f", func := "loop.example/g01211/laws.FnExactAfterSteps", spec := "fnExactAfterSteps", inPlace := ["internal/bytealg.IndexByteString", "internal/bytealg.IndexString", "internal/abi.NoEscape", "internal/bytealg.MakeNoZero"], unfollowed := true, recurses := true, named := ["internal/bytealg.MaxLen", "strconv.ErrSyntax", "strconv.ErrRange", "internal/strconv.uint64pow10", "math/bits.deBruijn32tab", "math/bits.deBruijn64tab"], apart := false, laid := [("math/bits.deBruijn32tab", laid_math_bits_deBruijn32tab), ("math/bits.deBruijn64tab", laid_math_bits_deBruijn64tab), ("internal/strconv.uint64pow10", laid_internal_strconv_uint64pow10), ("strconv.ErrRange", laid_strconv_ErrRange), ("strconv.ErrSyntax", laid_strconv_ErrSyntax)], narrowed := true }
def FnExactAfterStepsUptoSaid : Prop := fnExactAfterStepsUptoRow.holds Tryz.pinned (OpenSpec.upto fnExactAfterStepsSpec)

/-- 'laws.FnExactLazyChain', WHERE WHAT IT READS IS OF BULK AT MOST 1048576: true; the input reads as it did. -/
def fnExactLazyChainUptoRow : OpenClaim := { program := "ytdpljomfkoojnaagreatdoor", sum := "63df18ceafda19adeacc12f7e8be9cfc00e09963a107ccc3af00d6f5e6d6266f", func := "loop.example/g01211/laws.FnExactLazyChain", spec := "fnExactLazyChain", inPlace := ["internal/bytealg.IndexByteString", "internal/bytealg.IndexString", "internal/abi.NoEscape", "internal/bytealg.MakeNoZero"], unfollowed := true, recurses := true, named := ["internal/bytealg.MaxLen", "strconv.ErrSyntax", "strconv.ErrRange", "internal/strconv.uint64pow10", "math/bits.deBruijn32tab", "math/bits.deBruijn64tab"], apart := false, laid := [("math/bits.deBruijn32tab", laid_math_bits_deBruijn32tab), ("math/bits.deBruijn64tab", laid_math_bits_deBruijn64tab), ("internal/strconv.uint64pow10", laid_internal_strconv_uint64pow10), ("strconv.ErrRange", laid_strconv_ErrRange), ("strconv.ErrSyntax", laid_strconv_ErrSyntax)], narrowed := true }
def FnExactLazyChainUptoSaid : Prop := fnExactLazyChainUptoRow.holds Tryz.pinned (OpenSpec.upto fnExactLazyChainSpec)

/-- 'laws.FnExactLumpChain', WHERE WHAT IT READS IS OF BULK AT MOST 1048576: true; the input reads as it did. -/
def fnExactLumpChainUptoRow : OpenClaim := { program := "ytdpljomfkoojnaagreatdoor", sum := "63df18ceafda19adeacc12f7e8be9cfc00e09963a107ccc3af00d6f5e6d6266f", func := "loop.example/g01211/laws.FnExactLumpChain", spec := "fnExactLumpChain", inPlace := ["internal/bytealg.IndexByteString", "internal/bytealg.IndexString", "internal/abi.NoEscape", "internal/bytealg.MakeNoZero"], unfollowed := true, recurses := true, named := ["internal/bytealg.MaxLen", "strconv.ErrSyntax", "strconv.ErrRange", "internal/strconv.uint64pow10", "math/bits.deBruijn32tab", "math/bits.deBruijn64tab"], apart := false, laid := [("math/bits.deBruijn32tab", laid_math_bits_deBruijn32tab), ("math/bits.deBruijn64tab", laid_math_bits_deBruijn64tab), ("internal/strconv.uint64pow10", laid_internal_strconv_uint64pow10), ("strconv.ErrRange", laid_strconv_ErrRange), ("strconv.ErrSyntax", laid_strconv_ErrSyntax)], narrowed := true }
def FnExactLumpChainUptoSaid : Prop := fnExactLumpChainUptoRow.holds Tryz.pinned (OpenSpec.upto fnExactLumpChainSpec)

/-- 'laws.FnExactReverseChain', WHERE WHAT IT READS IS OF BULK AT MOST 1048576: true; the input reads as it did. -/
def fnExactReverseChainUptoRow : OpenClaim := { program := "ytdpljomfkoojnaagreatdoor", sum := "63df18ceafda19adeacc12f7e8be9cfc00e09963a107ccc3af00d6f5e6d6266f", func := "loop.example/g01211/laws.FnExactReverseChain", spec := "fnExactReverseChain", inPlace := ["internal/bytealg.IndexByteString", "internal/bytealg.IndexString", "internal/abi.NoEscape", "internal/bytealg.MakeNoZero"], unfollowed := true, recurses := true, named := ["internal/bytealg.MaxLen", "strconv.ErrSyntax", "strconv.ErrRange", "internal/strconv.uint64pow10", "math/bits.deBruijn32tab", "math/bits.deBruijn64tab"], apart := false, laid := [("math/bits.deBruijn32tab", laid_math_bits_deBruijn32tab), ("math/bits.deBruijn64tab", laid_math_bits_deBruijn64tab), ("internal/strconv.uint64pow10", laid_internal_strconv_uint64pow10), ("strconv.ErrRange", laid_strconv_ErrRange), ("strconv.ErrSyntax", laid_strconv_ErrSyntax)], narrowed := true }
def FnExactReverseChainUptoSaid : Prop := fnExactReverseChainUptoRow.holds Tryz.pinned (OpenSpec.upto fnExactReverseChainSpec)

/-- 'laws.FnExactSharesOfRest', WHERE WHAT IT READS IS OF BULK AT MOST 1048576: true; the input reads as it did. -/
def fnExactSharesOfRestUptoRow : OpenClaim := { program := "ytdpljomfkoojnaagreatdoor", sum := "63df18ceafda19adeacc12f7e8be9cfc00e09963a107ccc3af00d6f5e6d6266f", func := "loop.example/g01211/laws.FnExactSharesOfRest", spec := "fnExactSharesOfRest", inPlace := ["internal/bytealg.IndexByteString", "internal/bytealg.IndexString", "internal/abi.NoEscape", "internal/bytealg.MakeNoZero"], unfollowed := true, recurses := true, named := ["internal/bytealg.MaxLen", "strconv.ErrSyntax", "strconv.ErrRange", "internal/strconv.uint64pow10", "math/bits.deBruijn32tab", "math/bits.deBruijn64tab"], apart := false, laid := [("math/bits.deBruijn32tab", laid_math_bits_deBruijn32tab), ("math/bits.deBruijn64tab", laid_math_bits_deBruijn64tab), ("internal/strconv.uint64pow10", laid_internal_strconv_uint64pow10), ("strconv.ErrRange", laid_strconv_ErrRange), ("strconv.ErrSyntax", laid_strconv_ErrSyntax)], narrowed := true }
def FnExactSharesOfRestUptoSaid : Prop := fnExactSharesOfRestUptoRow.holds Tryz.pinned (OpenSpec.upto fnExactSharesOfRestSpec)

/-- 'laws.FnExactFarFromRest', WHERE WHAT IT READS IS OF BULK AT MOST 1048576: true; the input reads as it did. -/
def fnExactFarFromRestUptoRow : OpenClaim := { program := "ytdpljomfkoojnaagreatdoor", sum := "63df18ceafda19adeacc12f7e8be9cfc00e09963a107ccc3af00d6f5e6d6266f", func := "loop.example/g01211/laws.FnExactFarFromRest", spec := "fnExactFarFromRest", inPlace := ["internal/bytealg.IndexByteString", "internal/bytealg.IndexString", "internal/abi.NoEscape", "internal/bytealg.MakeNoZero"], unfollowed := true, recurses := true, named := ["internal/bytealg.MaxLen", "strconv.ErrSyntax", "strconv.ErrRange", "internal/strconv.uint64pow10", "math/bits.deBruijn32tab", "math/bits.deBruijn64tab"], apart := false, laid := [("math/bits.deBruijn32tab", laid_math_bits_deBruijn32tab), ("math/bits.deBruijn64tab", laid_math_bits_deBruijn64tab), ("internal/strconv.uint64pow10", laid_internal_strconv_uint64pow10), ("strconv.ErrRange", laid_strconv_ErrRange), ("strconv.ErrSyntax", laid_strconv_ErrSyntax)], narrowed := true }
def FnExactFarFromRestUptoSaid : Prop := fnExactFarFromRestUptoRow.holds Tryz.pinned (OpenSpec.upto fnExactFarFromRestSpec)

end Rows
end Go.Proofs.YtdpljomfkoojnaaGreatDoor
