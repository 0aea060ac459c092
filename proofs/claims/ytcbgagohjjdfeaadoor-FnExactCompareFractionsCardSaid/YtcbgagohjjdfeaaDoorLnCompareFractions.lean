import Derived.Test.YtcbgagohjjdfeaaDoorPlCompareFractions
import Derived.Test.YtcbgagohjjdfeaaDoorChecked
import Derived.Test.YtcbgagohjjdfeaaDoorTrydShelf
import Derived.WalkKit
import Derived.BigCall
import Derived.BigGuard
import Derived.Lib.ItoaMem
import Derived.Lib.AppendIntMem
set_option linter.unusedVariables false
set_option maxRecDepth 100000
noncomputable section
namespace Go.Cm.LnCompareFractions
open Go.RowKit
variable {gl : List (Nat × List Value)}
theorem td2 : TdOk Go.Proofs.Tryd.prog 2 ⟨Kd.int IntKind.i64, 8, false, 0, []⟩ := .of (by kernel_rfl) (.inr (by kernel_rfl)) rfl (Go.Proofs.Tryd.underlying2)
theorem td3 : TdOk Go.Proofs.Tryd.prog 3 ⟨Kd.int IntKind.i64, 8, false, 0, []⟩ := .of (by kernel_rfl) (.inr (by kernel_rfl)) rfl (Go.Proofs.Tryd.underlying3)
theorem td4 : TdOk Go.Proofs.Tryd.prog 4 ⟨Kd.bool, 1, false, 0, []⟩ := .of (by kernel_rfl) (.inr (by kernel_rfl)) rfl (Go.Proofs.Tryd.underlying4)
theorem td5 : TdOk Go.Proofs.Tryd.prog 5 ⟨Kd.int IntKind.u8, 1, false, 0, []⟩ := .of (by kernel_rfl) (.inr (by kernel_rfl)) rfl (Go.Proofs.Tryd.underlying5)
theorem td9 : TdOk Go.Proofs.Tryd.prog 9 ⟨Kd.str, 16, false, 0, []⟩ := .of (by kernel_rfl) (.inr (by kernel_rfl)) rfl (Go.Proofs.Tryd.underlying9)
theorem td24 : TdOk Go.Proofs.Tryd.prog 24 ⟨Kd.sl (Kd.int IntKind.i64), 24, false, 2, []⟩ := .of (by kernel_rfl) (.inr (by kernel_rfl)) rfl (Go.Proofs.Tryd.underlying24)
theorem td43 : TdOk Go.Proofs.Tryd.prog 43 ⟨Kd.sl Kd.str, 24, false, 9, []⟩ := .of (by kernel_rfl) (.inr (by kernel_rfl)) rfl (Go.Proofs.Tryd.underlying43)
theorem td47 : TdOk Go.Proofs.Tryd.prog 47 ⟨Kd.er, 16, false, 0, []⟩ := .of (by kernel_rfl) (.inr (by kernel_rfl)) rfl (⟨_, Go.Proofs.Tryd.underlying47⟩)
theorem td53 : TdOk Go.Proofs.Tryd.prog 53 ⟨Kd.st (Kd.pair Kd.bool (Kd.pair (Kd.sl (Kd.int IntKind.i64)) (Kd.sl (Kd.int IntKind.i64)))), 56, true, 0, [(0, 4), (1, 24), (2, 24)]⟩ := .of (by kernel_rfl) (.inr (by kernel_rfl)) rfl (⟨_, Go.Proofs.Tryd.underlying53, by kernel_rfl, by kernel_rfl⟩)
theorem td58 : TdOk Go.Proofs.Tryd.prog 58 ⟨Kd.sl (Kd.int IntKind.u32), 24, false, 89, []⟩ := .of (by kernel_rfl) (.inr (by kernel_rfl)) rfl (Go.Proofs.Tryd.underlying58)
theorem td60 : TdOk Go.Proofs.Tryd.prog 60 ⟨Kd.st (Kd.pair Kd.bool (Kd.pair (Kd.sl (Kd.int IntKind.u32)) (Kd.sl (Kd.int IntKind.u32)))), 56, true, 0, [(0, 4), (1, 58), (2, 58)]⟩ := .of (by kernel_rfl) (.inr (by kernel_rfl)) rfl (⟨_, Go.Proofs.Tryd.underlying60, by kernel_rfl, by kernel_rfl⟩)
theorem td63 : TdOk Go.Proofs.Tryd.prog 63 ⟨Kd.int IntKind.u64, 8, false, 0, []⟩ := .of (by kernel_rfl) (.inr (by kernel_rfl)) rfl (Go.Proofs.Tryd.underlying63)
theorem td89 : TdOk Go.Proofs.Tryd.prog 89 ⟨Kd.int IntKind.u32, 4, false, 0, []⟩ := .of (by kernel_rfl) (.inr (by kernel_rfl)) rfl (Go.Proofs.Tryd.underlying89)
theorem td92 : TdOk Go.Proofs.Tryd.prog 92 ⟨Kd.int IntKind.u64, 8, false, 0, []⟩ := .of (by kernel_rfl) (.inr (by kernel_rfl)) rfl (Go.Proofs.Tryd.underlying92)
def td : List (Nat × Td) := [(2, ⟨Kd.int IntKind.i64, 8, false, 0, []⟩), (3, ⟨Kd.int IntKind.i64, 8, false, 0, []⟩), (4, ⟨Kd.bool, 1, false, 0, []⟩), (5, ⟨Kd.int IntKind.u8, 1, false, 0, []⟩), (9, ⟨Kd.str, 16, false, 0, []⟩), (24, ⟨Kd.sl (Kd.int IntKind.i64), 24, false, 2, []⟩), (43, ⟨Kd.sl Kd.str, 24, false, 9, []⟩), (47, ⟨Kd.er, 16, false, 0, []⟩), (53, ⟨Kd.st (Kd.pair Kd.bool (Kd.pair (Kd.sl (Kd.int IntKind.i64)) (Kd.sl (Kd.int IntKind.i64)))), 56, true, 0, [(0, 4), (1, 24), (2, 24)]⟩), (58, ⟨Kd.sl (Kd.int IntKind.u32), 24, false, 89, []⟩), (60, ⟨Kd.st (Kd.pair Kd.bool (Kd.pair (Kd.sl (Kd.int IntKind.u32)) (Kd.sl (Kd.int IntKind.u32)))), 56, true, 0, [(0, 4), (1, 58), (2, 58)]⟩), (63, ⟨Kd.int IntKind.u64, 8, false, 0, []⟩), (89, ⟨Kd.int IntKind.u32, 4, false, 0, []⟩), (92, ⟨Kd.int IntKind.u64, 8, false, 0, []⟩)]
theorem tdOk : TdsOk ⟨Go.Proofs.Tryd.prog, td, [], [], []⟩ Go.Proofs.Tryd.prog := tdsCons td2 (tdsCons td3 (tdsCons td4 (tdsCons td5 (tdsCons td9 (tdsCons td24 (tdsCons td43 (tdsCons td47 (tdsCons td53 (tdsCons td58 (tdsCons td60 (tdsCons td63 (tdsCons td89 (tdsCons td92 (tdsNil _ _ _ _))))))))))))))
theorem mixed : Go.Proofs.Tryd.prog.follows .mixedOrders = true := by kernel_rfl
/-- Package-level variables that are laid. -/
def InP (gl : List (Nat × List Value)) : Prop := (0, Go.Lib.pow10Tab.map fun z => Value.int .u64 z) ∈ gl
def InM (gl : List (Nat × List Value)) : Prop := ∃ m, (3, [Value.int .i64 m]) ∈ gl
def InS (gl : List (Nat × List Value)) : Prop := ∃ t p, (1, [Value.iface t p]) ∈ gl
def InR (gl : List (Nat × List Value)) : Prop := ∃ t p, (2, [Value.iface t p]) ∈ gl
def ct_i_nat_cmp : Ct := ⟨[PK.bo (Kd.sl (Kd.int IntKind.u32)), PK.bo (Kd.sl (Kd.int IntKind.u32))], false, [(false, [RC.ro (Kd.int IntKind.i64)])], S.i_nat_cmp⟩
theorem v_i_nat_cmp : Valid Go.Proofs.Tryd.prog gl 76 ct_i_nat_cmp := by
  refine Valid.less (ps := [PK.bo (Kd.sl (Kd.int IntKind.u32)), PK.bo (Kd.sl (Kd.int IntKind.u32))]) (tup := false) (rs := [(false, [RC.ro (Kd.int IntKind.i64)])]) (g := P.i_nat_cmp) (fun k => valid (fx := ⟨⟨Go.Proofs.Tryd.prog, td, [], [], []⟩, k, [(6, [(5, Sp.dat false (Kd.int IntKind.i64)), (0, Sp.dat true (Kd.sl (Kd.int IntKind.u32))),   (1, Sp.dat true (Kd.sl (Kd.int IntKind.u32)))])]⟩) (fn := Go.Proofs.Tryd.f76) (c := Go.Proofs.Tryd.f76.body.getD .skip) mixed tdOk (ctsNil _ _ _ _ _) Go.Proofs.Tryd.func76 (by kernel_rfl) (by kernel_rfl) (fun x => ?_)) S.i_nat_cmp_ok
  kernel_rfl
def ct_i_nat_trim : Ct := ⟨[PK.ro (Kd.sl (Kd.int IntKind.u32))], false, [(false, [RC.ro (Kd.sl (Kd.int IntKind.u32))])], S.i_nat_trim⟩
theorem v_i_nat_trim : Valid Go.Proofs.Tryd.prog gl 70 ct_i_nat_trim := by
  refine Valid.less (ps := [PK.ro (Kd.sl (Kd.int IntKind.u32))]) (tup := false) (rs := [(false, [RC.ro (Kd.sl (Kd.int IntKind.u32))])]) (g := P.i_nat_trim) (fun k => valid (fx := ⟨⟨Go.Proofs.Tryd.prog, td, [], [], []⟩, k, [(1, [(0, Sp.dat false (Kd.sl (Kd.int IntKind.u32)))])]⟩) (fn := Go.Proofs.Tryd.f70) (c := Go.Proofs.Tryd.f70.body.getD .skip) mixed tdOk (ctsNil _ _ _ _ _) Go.Proofs.Tryd.func70 (by kernel_rfl) (by kernel_rfl) (fun x => ?_)) S.i_nat_trim_ok
  kernel_rfl
def ct_i_nat_mul : Ct := ⟨[PK.bo (Kd.sl (Kd.int IntKind.u32)), PK.bo (Kd.sl (Kd.int IntKind.u32))], false, [(false, [RC.ro (Kd.sl (Kd.int IntKind.u32))])], S.i_nat_mul⟩
theorem v_i_nat_mul : Valid Go.Proofs.Tryd.prog gl 108 ct_i_nat_mul := by
  refine Valid.less (ps := [PK.bo (Kd.sl (Kd.int IntKind.u32)), PK.bo (Kd.sl (Kd.int IntKind.u32))]) (tup := false) (rs := [(false, [RC.ro (Kd.sl (Kd.int IntKind.u32))])]) (g := P.i_nat_mul) (fun k => valid (fx := ⟨⟨Go.Proofs.Tryd.prog, td, [(70, ct_i_nat_trim)], [], []⟩, k, [(7, [(26, Sp.dat false (Kd.int IntKind.i64)), (25, Sp.dat false (Kd.int IntKind.i64)), (24, Sp.dat true (Kd.sl (Kd.int IntKind.u32))),   (8, Sp.dat false (Kd.int IntKind.u64)), (7, Sp.dat false (Kd.int IntKind.u32)), (5, Sp.own (128) true (Kd.int IntKind.u32)),   (6, Sp.dat false (Kd.int IntKind.i64)), (1, Sp.dat true (Kd.sl (Kd.int IntKind.u32))), (19, Sp.dat false (Kd.int IntKind.i64)),   (18, Sp.dat false (Kd.int IntKind.i64)), (17, Sp.dat true (Kd.sl (Kd.int IntKind.u32)))]), (3, [(19, Sp.dat false (Kd.int IntKind.i64)), (18, Sp.dat false (Kd.int IntKind.i64)), (17, Sp.dat true (Kd.sl (Kd.int IntKind.u32))),   (1, Sp.dat true (Kd.sl (Kd.int IntKind.u32))), (5, Sp.own (128) true (Kd.int IntKind.u32))])]⟩) (fn := Go.Proofs.Tryd.f108) (c := Go.Proofs.Tryd.f108.body.getD .skip) mixed tdOk (ctsCons v_i_nat_trim (ctsNil _ _ _ _ _)) Go.Proofs.Tryd.func108 (by kernel_rfl) (by kernel_rfl) (fun x => ?_)) S.i_nat_mul_ok
  kernel_rfl
def ct_i_rat_sign : Ct := ⟨[PK.bo (Kd.st (Kd.pair Kd.bool (Kd.pair (Kd.sl (Kd.int IntKind.u32)) (Kd.sl (Kd.int IntKind.u32)))))], false, [(false, [RC.ro (Kd.int IntKind.i64)])], S.i_rat_sign⟩
theorem v_i_rat_sign : Valid Go.Proofs.Tryd.prog gl 110 ct_i_rat_sign := by
  refine Valid.less (ps := [PK.bo (Kd.st (Kd.pair Kd.bool (Kd.pair (Kd.sl (Kd.int IntKind.u32)) (Kd.sl (Kd.int IntKind.u32)))))]) (tup := false) (rs := [(false, [RC.ro (Kd.int IntKind.i64)])]) (g := P.i_rat_sign) (fun k => valid (fx := ⟨⟨Go.Proofs.Tryd.prog, td, [], [], []⟩, k, []⟩) (fn := Go.Proofs.Tryd.f110) (c := Go.Proofs.Tryd.f110.body.getD .skip) mixed tdOk (ctsNil _ _ _ _ _) Go.Proofs.Tryd.func110 (by kernel_rfl) (by kernel_rfl) (fun x => ?_)) S.i_rat_sign_ok
  kernel_rfl
def ct_i_rat_cmp : Ct := ⟨[PK.bo (Kd.st (Kd.pair Kd.bool (Kd.pair (Kd.sl (Kd.int IntKind.u32)) (Kd.sl (Kd.int IntKind.u32))))),   PK.bo (Kd.st (Kd.pair Kd.bool (Kd.pair (Kd.sl (Kd.int IntKind.u32)) (Kd.sl (Kd.int IntKind.u32)))))], false, [(false, [RC.ro (Kd.int IntKind.i64)])], S.i_rat_cmp⟩
theorem v_i_rat_cmp : Valid Go.Proofs.Tryd.prog gl 78 ct_i_rat_cmp := by
  refine Valid.less (ps := [PK.bo (Kd.st (Kd.pair Kd.bool (Kd.pair (Kd.sl (Kd.int IntKind.u32)) (Kd.sl (Kd.int IntKind.u32))))),   PK.bo (Kd.st (Kd.pair Kd.bool (Kd.pair (Kd.sl (Kd.int IntKind.u32)) (Kd.sl (Kd.int IntKind.u32)))))]) (tup := false) (rs := [(false, [RC.ro (Kd.int IntKind.i64)])]) (g := P.i_rat_cmp) (fun k => valid (fx := ⟨⟨Go.Proofs.Tryd.prog, td, [(76, ct_i_nat_cmp), (108, ct_i_nat_mul), (110, ct_i_rat_sign)], [], []⟩, k, []⟩) (fn := Go.Proofs.Tryd.f78) (c := Go.Proofs.Tryd.f78.body.getD .skip) mixed tdOk (ctsCons v_i_nat_cmp (ctsCons v_i_nat_mul (ctsCons v_i_rat_sign (ctsNil _ _ _ _ _)))) Go.Proofs.Tryd.func78 (by kernel_rfl) (by kernel_rfl) (fun x => ?_)) S.i_rat_cmp_ok
  kernel_rfl
def ct_i_rat_compared : Ct := ⟨[PK.bo (Kd.st (Kd.pair Kd.bool (Kd.pair (Kd.sl (Kd.int IntKind.u32)) (Kd.sl (Kd.int IntKind.u32))))),   PK.bo (Kd.st (Kd.pair Kd.bool (Kd.pair (Kd.sl (Kd.int IntKind.u32)) (Kd.sl (Kd.int IntKind.u32)))))], false, [(false, [RC.ro (Kd.int IntKind.i64)])], S.i_rat_compared⟩
theorem v_i_rat_compared : Valid Go.Proofs.Tryd.prog gl 52 ct_i_rat_compared := by
  refine Valid.less (ps := [PK.bo (Kd.st (Kd.pair Kd.bool (Kd.pair (Kd.sl (Kd.int IntKind.u32)) (Kd.sl (Kd.int IntKind.u32))))),   PK.bo (Kd.st (Kd.pair Kd.bool (Kd.pair (Kd.sl (Kd.int IntKind.u32)) (Kd.sl (Kd.int IntKind.u32)))))]) (tup := false) (rs := [(false, [RC.ro (Kd.int IntKind.i64)])]) (g := P.i_rat_compared) (fun k => valid (fx := ⟨⟨Go.Proofs.Tryd.prog, td, [(78, ct_i_rat_cmp)], [], []⟩, k, []⟩) (fn := Go.Proofs.Tryd.f52) (c := Go.Proofs.Tryd.f52.body.getD .skip) mixed tdOk (ctsCons v_i_rat_cmp (ctsNil _ _ _ _ _)) Go.Proofs.Tryd.func52 (by kernel_rfl) (by kernel_rfl) (fun x => ?_)) S.i_rat_compared_ok
  kernel_rfl
def ct_strings_Cut : Ct := ⟨[PK.ro Kd.str, PK.ro Kd.str], true, [(false, [RC.ro Kd.str]), (false, [RC.ro Kd.str]), (false, [RC.ro Kd.bool])], S.strings_Cut⟩
theorem v_strings_Cut (hM : InM gl) : Valid Go.Proofs.Tryd.prog gl 73 ct_strings_Cut := by
  refine told_flat (enters_of Go.Proofs.Tryd.func73 (by kernel_rfl) (by kernel_rfl)) (fun _ _ _ _ _ _ => trivial) (fun w M0 W0 us x γ hl hW ha r hr => ?_)
  obtain ⟨s, b, q⟩ := x
  obtain ⟨u1, _, rfl, ⟨c1, h1, h1'⟩, u2, _, rfl, ⟨c2, h2, h2'⟩, rfl⟩ := ha
  cases h1'; cases h2'; subst h1; subst h2
  unfold S.strings_Cut at hr
  split at hr
  case isFalse => cases hr
  rename_i hc
  cases hr
  obtain ⟨m, hm⟩ := hM
  refine (Go.Proofs.Tryd.strings_Cut s b m w hc (laid_cell hl hm)).mono ?_
  rintro e w' ⟨rfl, n, rfl⟩
  exact ⟨[_, _, _], rfl, ⟨rfl, rfl, rfl, Nat.le_refl _, fun _ _ => rfl⟩, fun M' => ⟨[_], [_, _], rfl, fun _ => rfl, rfl, [_], [_], rfl, fun _ => rfl, rfl, [_], rfl, fun _ => rfl, rfl⟩⟩

def ct_strings_CutPrefix : Ct := ⟨[PK.ro Kd.str, PK.ro Kd.str], true, [(false, [RC.ro Kd.str]), (false, [RC.ro Kd.bool])], S.strings_CutPrefix⟩
theorem v_strings_CutPrefix : Valid Go.Proofs.Tryd.prog gl 74 ct_strings_CutPrefix := by
  refine told_flat (enters_of Go.Proofs.Tryd.func74 (by kernel_rfl) (by kernel_rfl)) (fun _ _ _ _ _ _ => trivial) (fun w M0 W0 us x γ hl hW ha r hr => ?_)
  obtain ⟨s, b, q⟩ := x
  obtain ⟨u1, _, rfl, ⟨c1, h1, h1'⟩, u2, _, rfl, ⟨c2, h2, h2'⟩, rfl⟩ := ha
  cases h1'; cases h2'; subst h1; subst h2
  cases hr
  refine (Go.Proofs.Tryd.strings_CutPrefix s b w).mono ?_
  rintro e w' ⟨rfl, rfl⟩
  exact ⟨[_, _], rfl, Below.refl _ _, fun M' => ⟨[_], [_], rfl, fun _ => rfl, rfl, [_], rfl, fun _ => rfl, rfl⟩⟩

def ct_i_natOf : Ct := ⟨[PK.ro (Kd.int IntKind.u64)], false, [(false, [RC.ro (Kd.sl (Kd.int IntKind.u32))])], S.i_natOf⟩
theorem v_i_natOf : Valid Go.Proofs.Tryd.prog gl 45 ct_i_natOf := by
  refine Valid.less (ps := [PK.ro (Kd.int IntKind.u64)]) (tup := false) (rs := [(false, [RC.ro (Kd.sl (Kd.int IntKind.u32))])]) (g := P.i_natOf) (fun k => valid (fx := ⟨⟨Go.Proofs.Tryd.prog, td, [(70, ct_i_nat_trim)], [], []⟩, k, []⟩) (fn := Go.Proofs.Tryd.f45) (c := Go.Proofs.Tryd.f45.body.getD .skip) mixed tdOk (ctsCons v_i_nat_trim (ctsNil _ _ _ _ _)) Go.Proofs.Tryd.func45 (by kernel_rfl) (by kernel_rfl) (fun x => ?_)) S.i_natOf_ok
  kernel_rfl
def ct_i_nat_small : Ct := ⟨[PK.bo (Kd.sl (Kd.int IntKind.u32))], true, [(false, [RC.ro (Kd.int IntKind.u64)]), (false, [RC.ro Kd.bool])], S.i_nat_small⟩
theorem v_i_nat_small : Valid Go.Proofs.Tryd.prog gl 100 ct_i_nat_small := by
  refine Valid.less (ps := [PK.bo (Kd.sl (Kd.int IntKind.u32))]) (tup := true) (rs := [(false, [RC.ro (Kd.int IntKind.u64)]), (false, [RC.ro Kd.bool])]) (g := P.i_nat_small) (fun k => valid (fx := ⟨⟨Go.Proofs.Tryd.prog, td, [], [], []⟩, k, [(3, [(5, Sp.dat false (Kd.int IntKind.i64)), (0, Sp.dat true (Kd.sl (Kd.int IntKind.u32))), (4, Sp.dat false (Kd.int IntKind.u64))])]⟩) (fn := Go.Proofs.Tryd.f100) (c := Go.Proofs.Tryd.f100.body.getD .skip) mixed tdOk (ctsNil _ _ _ _ _) Go.Proofs.Tryd.func100 (by kernel_rfl) (by kernel_rfl) (fun x => ?_)) S.i_nat_small_ok
  kernel_rfl
def ct_math_bits_LeadingZeros32 : Ct := ⟨[PK.ro (Kd.int IntKind.u32)], false, [(false, [RC.ro (Kd.int IntKind.i64)])], S.math_bits_LeadingZeros32⟩
theorem v_math_bits_LeadingZeros32 : Valid Go.Proofs.Tryd.prog gl 102 ct_math_bits_LeadingZeros32 := by
  refine told_flat (enters_of Go.Proofs.Tryd.func102 (by kernel_rfl) (by kernel_rfl)) (fun _ _ _ _ _ _ => trivial) (fun w M0 W0 us x γ hl hW ha r hr => ?_)
  obtain ⟨n, q⟩ := x
  obtain ⟨u1, _, rfl, ⟨c1, h1, h1'⟩, rfl⟩ := ha
  cases h1'; subst h1
  unfold S.math_bits_LeadingZeros32 at hr
  split at hr
  case isFalse => cases hr
  rename_i hc
  cases hr
  refine (Go.Proofs.Tryd.bits_LeadingZeros32 n w hc.1 hc.2).mono ?_
  rintro e w' ⟨rfl, rfl⟩
  exact ⟨[_], rfl, Below.refl _ _, fun M' => ⟨[_], rfl, fun _ => rfl, rfl⟩⟩

def ct_i_nat_divSmall : Ct := ⟨[PK.bo (Kd.sl (Kd.int IntKind.u32)), PK.ro (Kd.int IntKind.u32)], true, [(false, [RC.ro (Kd.sl (Kd.int IntKind.u32))]), (false, [RC.ro (Kd.int IntKind.u32)])], S.i_nat_divSmall⟩
theorem v_i_nat_divSmall : Valid Go.Proofs.Tryd.prog gl 101 ct_i_nat_divSmall := by
  refine Valid.less (ps := [PK.bo (Kd.sl (Kd.int IntKind.u32)), PK.ro (Kd.int IntKind.u32)]) (tup := true) (rs := [(false, [RC.ro (Kd.sl (Kd.int IntKind.u32))]), (false, [RC.ro (Kd.int IntKind.u32)])]) (g := P.i_nat_divSmall) (fun k => valid (fx := ⟨⟨Go.Proofs.Tryd.prog, td, [(70, ct_i_nat_trim)], [], []⟩, k, [(3, [(8, Sp.dat false (Kd.int IntKind.i64)), (7, Sp.dat false (Kd.int IntKind.u64)), (0, Sp.dat true (Kd.sl (Kd.int IntKind.u32))),   (6, Sp.own (88) true (Kd.int IntKind.u32)), (1, Sp.dat false (Kd.int IntKind.u32))])]⟩) (fn := Go.Proofs.Tryd.f101) (c := Go.Proofs.Tryd.f101.body.getD .skip) mixed tdOk (ctsCons v_i_nat_trim (ctsNil _ _ _ _ _)) Go.Proofs.Tryd.func101 (by kernel_rfl) (by kernel_rfl) (fun x => ?_)) S.i_nat_divSmall_ok
  kernel_rfl
def ct_i_nat_shifted : Ct := ⟨[PK.bo (Kd.sl (Kd.int IntKind.u32)), PK.ro (Kd.int IntKind.i64)], false, [(false, [RC.own (Kd.int IntKind.u32)])], S.i_nat_shifted⟩
theorem v_i_nat_shifted : Valid Go.Proofs.Tryd.prog gl 103 ct_i_nat_shifted := by
  refine Valid.less (ps := [PK.bo (Kd.sl (Kd.int IntKind.u32)), PK.ro (Kd.int IntKind.i64)]) (tup := false) (rs := [(false, [RC.own (Kd.int IntKind.u32)])]) (g := P.i_nat_shifted) (fun k => valid (fx := ⟨⟨Go.Proofs.Tryd.prog, td, [], [], []⟩, k, [(3, [(15, Sp.dat false (Kd.int IntKind.i64)), (14, Sp.dat false (Kd.int IntKind.i64)), (13, Sp.dat true (Kd.sl (Kd.int IntKind.u32))),   (1, Sp.dat false (Kd.int IntKind.i64)), (5, Sp.own (96) true (Kd.int IntKind.u32))])]⟩) (fn := Go.Proofs.Tryd.f103) (c := Go.Proofs.Tryd.f103.body.getD .skip) mixed tdOk (ctsNil _ _ _ _ _) Go.Proofs.Tryd.func103 (by kernel_rfl) (by kernel_rfl) (fun x => ?_)) S.i_nat_shifted_ok
  kernel_rfl
def ct_i_takeAway : Ct := ⟨[PK.mu (Kd.int IntKind.u32), PK.bo (Kd.sl (Kd.int IntKind.u32)), PK.ro (Kd.int IntKind.u64)], false, [(false, [RC.ro Kd.bool])], S.i_takeAway⟩
theorem v_i_takeAway : Valid Go.Proofs.Tryd.prog gl 104 ct_i_takeAway := by
  refine Valid.less (ps := [PK.mu (Kd.int IntKind.u32), PK.bo (Kd.sl (Kd.int IntKind.u32)), PK.ro (Kd.int IntKind.u64)]) (tup := false) (rs := [(false, [RC.ro Kd.bool])]) (g := P.i_takeAway) (fun k => valid (fx := ⟨⟨Go.Proofs.Tryd.prog, td, [], [], []⟩, k, [(18, [(59, Sp.dat false (Kd.int IntKind.i64)), (58, Sp.dat false (Kd.int IntKind.i64)), (7, Sp.dat false (Kd.int IntKind.u64)),   (0, Sp.own (0) false (Kd.int IntKind.u32)), (1, Sp.dat true (Kd.sl (Kd.int IntKind.u32)))]), (3, [(14, Sp.dat false (Kd.int IntKind.i64)), (13, Sp.dat false (Kd.int IntKind.i64)), (1, Sp.dat true (Kd.sl (Kd.int IntKind.u32))),   (7, Sp.dat false (Kd.int IntKind.u64)), (2, Sp.dat false (Kd.int IntKind.u64)), (0, Sp.own (0) false (Kd.int IntKind.u32)),   (8, Sp.dat false (Kd.int IntKind.i64))])]⟩) (fn := Go.Proofs.Tryd.f104) (c := Go.Proofs.Tryd.f104.body.getD .skip) mixed tdOk (ctsNil _ _ _ _ _) Go.Proofs.Tryd.func104 (by kernel_rfl) (by kernel_rfl) (fun x => ?_)) S.i_takeAway_ok
  kernel_rfl
def ct_i_nat_div : Ct := ⟨[PK.ro (Kd.sl (Kd.int IntKind.u32)), PK.ro (Kd.sl (Kd.int IntKind.u32))], true, [(false, [RC.ro (Kd.sl (Kd.int IntKind.u32))]), (false, [RC.ro (Kd.sl (Kd.int IntKind.u32))])], S.i_nat_div⟩
theorem trimN_snoc (xs : List Int) (x : Int) : trimN (xs ++ [x]) = if x = 0 then trimN xs else xs.length + 1 := by
  unfold trimN
  rw [List.reverse_append]
  by_cases h : x = 0
  · simp [h, List.dropWhile]
  · simp [h, List.dropWhile]
theorem trimN_le (xs : List Int) : trimN xs ≤ xs.length := by
  unfold trimN
  have := (List.dropWhile_sublist (fun x : Int => x == 0) (l := xs.reverse)).length_le
  simpa using this
def lenOfV : Value → Nat
  | .slice _ m _ => m
  | _ => 0
set_option maxHeartbeats 800000 in
set_option maxRecDepth 100000 in
theorem trim_calls (b o real : Nat) (xs : List Int) (w : World) (hle : xs.length ≤ real) (hbig : xs.length ≤ 1000000000000) (hc : ∀ (i : Nat) (x : Int), xs[i]? = some x → w.cell? ⟨b, o + i, none⟩ = some (.int .u32 x)) :
    Calls Go.Proofs.Tryd.prog 70 #[.slice (some ⟨b, o, none⟩) xs.length real] w fun e w' => e = .returned (.slice (some ⟨b, o, none⟩) (trimN xs) real) ∧ w' = w := by
  go_enter Go.Proofs.Tryd.func70, Go.Proofs.Tryd.ntmps70
  go_wp2
  go_loopw [0] (fun v wr => ∃ m : Nat, m ≤ xs.length ∧ v = .slice (some ⟨b, o, none⟩) m real ∧ wr = w ∧ trimN (xs.take m) = trimN xs) (fun v _ => lenOfV v)
  case atStart => exact ⟨xs.length, Nat.le_refl _, rfl, rfl, by rw [List.take_length]⟩
  case round =>
    obtain ⟨m, hm, rfl, rfl, ht⟩ := hrel
    by_cases h0 : 0 < m
    · obtain ⟨k, rfl⟩ : ∃ k, m = k + 1 := ⟨m - 1, by omega⟩
      have hx : xs[k]? = some xs[k] := List.getElem?_eq_getElem (by omega)
      have hcx := hc k _ hx
      have hw : wrap64 (((k + 1 : Nat) : Int) - 1) = (k : Int) := by
        have e : ((k + 1 : Nat) : Int) - 1 = (k : Int) := by omega
        rw [e]
        exact IntWalk.wrap64_in _ (by omega)
      have ht' : trimN (xs.take (k + 1)) = if xs[k] = 0 then trimN (xs.take k) else k + 1 := by
        rw [← List.take_append_getElem (show k < xs.length by omega), trimN_snoc]
        have : (xs.take k).length = k := by simp; omega
        rw [this]
      go_wp2
      · have hz : (xs[k] == 0) = true := by assumption
        have hz' : xs[k] = 0 := by simpa using hz
        rw [if_pos hz'] at ht'
        exact ⟨⟨k, by omega, rfl, trivial, by rw [← ht', ht]⟩, Nat.lt_succ_self k⟩
      · have hz : (xs[k] == 0) = false := by assumption
        have hz' : ¬ xs[k] = 0 := by simpa using hz
        rw [if_neg hz'] at ht'
        rw [← ht, ht']
        go_ret
        exact ⟨rfl, rfl⟩
    · have h1 : m = 0 := by omega
      subst h1
      go_wp2
      have h2 : trimN xs = 0 := by rw [← ht]; rfl
      rw [h2]
      go_ret
      exact ⟨rfl, rfl⟩
set_option maxHeartbeats 800000 in
set_option maxRecDepth 100000 in
theorem trim_calls0 (A : Option Addr) (real : Nat) (w : World) :
    Calls Go.Proofs.Tryd.prog 70 #[.slice A 0 real] w fun e w' => e = .returned (.slice A 0 real) ∧ w' = w := by
  go_enter Go.Proofs.Tryd.func70, Go.Proofs.Tryd.ntmps70
  go_wp2
  refine wp_loop_rounds 1 ?_
  rw [rounds_succ]
  go_wp2
  go_ret
  exact ⟨rfl, rfl⟩
theorem shr_trim : ShrOk Go.Proofs.Tryd.prog 70 IntKind.u32 trimN := by
  refine ⟨enters_of Go.Proofs.Tryd.func70 (by kernel_rfl) (by kernel_rfl), fun w u xs A real hbig hsl hno hc => ?_⟩
  obtain ⟨A', rfl, hle, hA⟩ := hsl
  rcases Nat.eq_zero_or_pos real with h0 | h0
  · have h1 : xs = [] := List.eq_nil_of_length_eq_zero (by omega)
    subst h1
    refine (trim_calls0 A' real w).mono ?_
    rintro e w' ⟨rfl, rfl⟩
    exact ⟨rfl, Nat.le_refl _, _, rfl, rfl, A', rfl, Nat.zero_le _, fun h => by omega⟩
  · obtain ⟨b, o, rfl, rfl⟩ := hA h0
    refine (trim_calls b o real xs w hle hbig (hc b o rfl)).mono ?_
    rintro e w' ⟨rfl, rfl⟩
    have := trimN_le xs
    exact ⟨rfl, this, _, rfl, rfl, _, rfl, by omega, fun _ => ⟨b, o, rfl, rfl⟩⟩

theorem v_i_nat_div : Valid Go.Proofs.Tryd.prog gl 69 ct_i_nat_div := by
  refine Valid.less (ps := [PK.ro (Kd.sl (Kd.int IntKind.u32)), PK.ro (Kd.sl (Kd.int IntKind.u32))]) (tup := true) (rs := [(false, [RC.ro (Kd.sl (Kd.int IntKind.u32))]), (false, [RC.ro (Kd.sl (Kd.int IntKind.u32))])]) (g := P.i_nat_div) (fun k => valid (fx := ⟨⟨Go.Proofs.Tryd.prog, td, [(102, ct_math_bits_LeadingZeros32), (70, ct_i_nat_trim), (76, ct_i_nat_cmp), (101, ct_i_nat_divSmall), (103, ct_i_nat_shifted), (104, ct_i_takeAway)], [], [(70, IntKind.u32, trimN)]⟩, k, [(26, [(148, Sp.dat false (Kd.int IntKind.i64)), (147, Sp.dat false (Kd.int IntKind.i64)),   (9, Sp.own (400) true (Kd.int IntKind.u32)), (8, Sp.dat false (Kd.int IntKind.i64)),   (13, Sp.own (592) true (Kd.int IntKind.u32))]), (17, [(17, Sp.dat false (Kd.int IntKind.u64)), (12, Sp.dat false (Kd.int IntKind.u64)), (18, Sp.dat false (Kd.int IntKind.u64)),   (9, Sp.own (400) true (Kd.int IntKind.u32)), (15, Sp.dat false (Kd.int IntKind.i64)), (11, Sp.dat false (Kd.int IntKind.u64)),   (14, Sp.dat false (Kd.int IntKind.i64)), (10, Sp.dat false (Kd.sl (Kd.int IntKind.u32))),   (13, Sp.own (592) true (Kd.int IntKind.u32)), (8, Sp.dat false (Kd.int IntKind.i64))]), (12, [(14, Sp.dat false (Kd.int IntKind.i64)), (10, Sp.dat false (Kd.sl (Kd.int IntKind.u32))),   (9, Sp.own (400) true (Kd.int IntKind.u32)), (11, Sp.dat false (Kd.int IntKind.u64)), (12, Sp.dat false (Kd.int IntKind.u64)),   (13, Sp.own (592) true (Kd.int IntKind.u32)), (8, Sp.dat false (Kd.int IntKind.i64))])]⟩) (fn := Go.Proofs.Tryd.f69) (c := Go.Proofs.Tryd.f69.body.getD .skip) mixed tdOk (ctsCons v_math_bits_LeadingZeros32 (ctsCons v_i_nat_trim (ctsCons v_i_nat_cmp (ctsCons v_i_nat_divSmall (ctsCons v_i_nat_shifted (ctsCons v_i_takeAway (ctsShr shr_trim))))))) Go.Proofs.Tryd.func69 (by kernel_rfl) (by kernel_rfl) (fun x => ?_)) S.i_nat_div_ok
  kernel_rfl
def ct_i_nat_gcd : Ct := ⟨[PK.ro (Kd.sl (Kd.int IntKind.u32)), PK.ro (Kd.sl (Kd.int IntKind.u32))], false, [(false, [RC.ro (Kd.sl (Kd.int IntKind.u32))])], S.i_nat_gcd⟩
theorem v_i_nat_gcd : Valid Go.Proofs.Tryd.prog gl 68 ct_i_nat_gcd := by
  refine Valid.less (ps := [PK.ro (Kd.sl (Kd.int IntKind.u32)), PK.ro (Kd.sl (Kd.int IntKind.u32))]) (tup := false) (rs := [(false, [RC.ro (Kd.sl (Kd.int IntKind.u32))])]) (g := P.i_nat_gcd) (fun k => valid (fx := ⟨⟨Go.Proofs.Tryd.prog, td, [(45, ct_i_natOf), (100, ct_i_nat_small), (69, ct_i_nat_div)], [], []⟩, k, [(5, [(7, Sp.dat false (Kd.int IntKind.u64)), (5, Sp.dat false (Kd.int IntKind.u64))]), (1, [(1, Sp.dat false (Kd.sl (Kd.int IntKind.u32))), (0, Sp.dat false (Kd.sl (Kd.int IntKind.u32)))])]⟩) (fn := Go.Proofs.Tryd.f68) (c := Go.Proofs.Tryd.f68.body.getD .skip) mixed tdOk (ctsCons v_i_natOf (ctsCons v_i_nat_small (ctsCons v_i_nat_div (ctsNil _ _ _ _ _)))) Go.Proofs.Tryd.func68 (by kernel_rfl) (by kernel_rfl) (fun x => ?_)) S.i_nat_gcd_ok
  kernel_rfl
def ct_strconv_ParseUint : Ct := ⟨[PK.ro Kd.str, PK.ro (Kd.int IntKind.i64), PK.ro (Kd.int IntKind.i64)], true, [(false, [RC.ro (Kd.int IntKind.u64)]), (false, [RC.ro Kd.er])], S.strconv_ParseUint⟩
theorem v_strconv_ParseUint (hR : InR gl) (hS : InS gl) : Valid Go.Proofs.Tryd.prog gl 107 ct_strconv_ParseUint := by
  refine told_flat (enters_of Go.Proofs.Tryd.func107 (by kernel_rfl) (by kernel_rfl)) (fun _ _ _ _ _ _ => trivial) (fun w M0 W0 us x γ hl hW ha r hr => ?_)
  obtain ⟨s, b, z, q⟩ := x
  obtain ⟨u1, _, rfl, ⟨c1, h1, h1'⟩, u2, _, rfl, ⟨c2, h2, h2'⟩, u3, _, rfl, ⟨c3, h3, h3'⟩, rfl⟩ := ha
  cases h1'; cases h2'; cases h3'; subst h1; subst h2; subst h3
  unfold S.strconv_ParseUint at hr
  split at hr
  case isFalse => cases hr
  rename_i hc
  obtain ⟨hb, hz, hs⟩ := hc
  dsimp only at hb hz hs hr
  subst hb; subst hz
  obtain ⟨t1, p1, hS⟩ := hS
  obtain ⟨t2, p2, hR⟩ := hR
  have v1 : w.var? Go.Proofs.Tryd.prog "strconv.ErrSyntax" = some #[.iface t1 p1] := laid_var hl hS (by kernel_rfl)
  have v2 : w.var? Go.Proofs.Tryd.prog "strconv.ErrRange" = some #[.iface t2 p2] := laid_var hl hR (by kernel_rfl)
  split at hr
  · rename_i v hv
    cases hr
    refine (Go.Proofs.Tryd.strconv_ParseUint_10_at64_ok s (by omega) v hv w).mono ?_
    rintro e w' ⟨rfl, hw⟩
    refine ⟨[_, _], rfl, ?_, fun M' => ⟨[_], [_], rfl, fun _ => rfl, rfl, [_], rfl, fun _ => rfl, _, rfl, rfl, rfl⟩⟩
    rcases hw with rfl | ⟨t, rfl⟩
    · exact Below.refl _ _
    · exact ⟨rfl, rfl, rfl, by rw [Lib.bytesWorld_size]; omega, fun k hk => Lib.bytesWorld_at_old _ _ _ k (by omega)⟩
  · rename_i hv
    cases hr
    refine (Go.Proofs.Tryd.strconv_ParseUint_10_at64_syntax_var s hs hv t1 p1 w v1).mono ?_
    rintro e w' ⟨N, rfl, _, _, hbl⟩
    exact ⟨[_, _], rfl, hbl, fun M' => ⟨[_], [_], rfl, fun _ => rfl, rfl, [_], rfl, fun _ => rfl, _, rfl, rfl, _, _, rfl⟩⟩
  · rename_i hv
    cases hr
    refine (Go.Proofs.Tryd.strconv_ParseUint_10_at64_range_var s hs hv t2 p2 w v2).mono ?_
    rintro e w' ⟨N, rfl, _, _, hbl⟩
    exact ⟨[_, _], rfl, hbl, fun M' => ⟨[_], [_], rfl, fun _ => rfl, rfl, [_], rfl, fun _ => rfl, _, rfl, rfl, _, _, rfl⟩⟩

def ct_i_nat_add : Ct := ⟨[PK.bo (Kd.sl (Kd.int IntKind.u32)), PK.bo (Kd.sl (Kd.int IntKind.u32))], false, [(false, [RC.ro (Kd.sl (Kd.int IntKind.u32))])], S.i_nat_add⟩
theorem v_i_nat_add : Valid Go.Proofs.Tryd.prog gl 109 ct_i_nat_add := by
  refine Valid.less (ps := [PK.bo (Kd.sl (Kd.int IntKind.u32)), PK.bo (Kd.sl (Kd.int IntKind.u32))]) (tup := false) (rs := [(false, [RC.ro (Kd.sl (Kd.int IntKind.u32))])]) (g := P.i_nat_add) (fun k => valid (fx := ⟨⟨Go.Proofs.Tryd.prog, td, [(70, ct_i_nat_trim)], [], []⟩, k, [(5, [(21, Sp.dat false (Kd.int IntKind.i64)), (20, Sp.dat false (Kd.int IntKind.i64)), (6, Sp.dat false (Kd.int IntKind.u64)),   (0, Sp.dat true (Kd.sl (Kd.int IntKind.u32))), (1, Sp.dat true (Kd.sl (Kd.int IntKind.u32))),   (5, Sp.own (144) true (Kd.int IntKind.u32))])]⟩) (fn := Go.Proofs.Tryd.f109) (c := Go.Proofs.Tryd.f109.body.getD .skip) mixed tdOk (ctsCons v_i_nat_trim (ctsNil _ _ _ _ _)) Go.Proofs.Tryd.func109 (by kernel_rfl) (by kernel_rfl) (fun x => ?_)) S.i_nat_add_ok
  kernel_rfl
def ct_i_readNat : Ct := ⟨[PK.ro Kd.str], true, [(false, [RC.ro (Kd.sl (Kd.int IntKind.u32))]), (false, [RC.ro Kd.bool])], S.i_readNat⟩
theorem v_i_readNat (hR : InR gl) (hS : InS gl) : Valid Go.Proofs.Tryd.prog gl 75 ct_i_readNat := by
  refine Valid.less (ps := [PK.ro Kd.str]) (tup := true) (rs := [(false, [RC.ro (Kd.sl (Kd.int IntKind.u32))]), (false, [RC.ro Kd.bool])]) (g := P.i_readNat) (fun k => valid (fx := ⟨⟨Go.Proofs.Tryd.prog, td, [(107, ct_strconv_ParseUint), (45, ct_i_natOf), (109, ct_i_nat_add), (108, ct_i_nat_mul)], [], []⟩, k, [(17, [(59, Sp.dat false (Kd.int IntKind.i64)), (58, Sp.dat false (Kd.int IntKind.i64)), (9, Sp.dat false (Kd.int IntKind.u64)),   (4, Sp.dat false (Kd.sl (Kd.int IntKind.u32))), (7, Sp.dat false (Kd.int IntKind.u64)), (0, Sp.dat false Kd.str),   (6, Sp.dat false (Kd.int IntKind.i64))]), (10, [(0, Sp.dat false Kd.str), (4, Sp.dat false (Kd.sl (Kd.int IntKind.u32)))]), (5, [(30, Sp.dat false (Kd.int IntKind.i64)), (29, Sp.dat false (Kd.int IntKind.i64)), (0, Sp.dat false Kd.str),   (4, Sp.dat false (Kd.sl (Kd.int IntKind.u32)))])]⟩) (fn := Go.Proofs.Tryd.f75) (c := Go.Proofs.Tryd.f75.body.getD .skip) mixed tdOk (ctsCons (v_strconv_ParseUint hR hS) (ctsCons v_i_natOf (ctsCons v_i_nat_add (ctsCons v_i_nat_mul (ctsNil _ _ _ _ _))))) Go.Proofs.Tryd.func75 (by kernel_rfl) (by kernel_rfl) (fun x => ?_)) S.i_readNat_ok
  kernel_rfl
def ct_i_readRat : Ct := ⟨[PK.ro Kd.str], true, [(true, [RC.ro (Kd.st (Kd.pair Kd.bool (Kd.pair (Kd.sl (Kd.int IntKind.u32)) (Kd.sl (Kd.int IntKind.u32)))))]), (false, [RC.ro Kd.bool])], S.i_readRat⟩
theorem v_i_readRat (hM : InM gl) (hR : InR gl) (hS : InS gl) : Valid Go.Proofs.Tryd.prog gl 48 ct_i_readRat := by
  refine Valid.less (ps := [PK.ro Kd.str]) (tup := true) (rs := [(true, [RC.ro (Kd.st (Kd.pair Kd.bool (Kd.pair (Kd.sl (Kd.int IntKind.u32)) (Kd.sl (Kd.int IntKind.u32)))))]), (false, [RC.ro Kd.bool])]) (g := P.i_readRat) (fun k => valid (fx := ⟨⟨Go.Proofs.Tryd.prog, td, [(73, ct_strings_Cut), (74, ct_strings_CutPrefix), (45, ct_i_natOf), (76, ct_i_nat_cmp), (68, ct_i_nat_gcd), (75, ct_i_readNat)], [], []⟩, k, []⟩) (fn := Go.Proofs.Tryd.f48) (c := Go.Proofs.Tryd.f48.body.getD .skip) mixed tdOk (ctsCons (v_strings_Cut hM) (ctsCons v_strings_CutPrefix (ctsCons v_i_natOf (ctsCons v_i_nat_cmp (ctsCons v_i_nat_gcd (ctsCons (v_i_readNat hR hS) (ctsNil _ _ _ _ _))))))) Go.Proofs.Tryd.func48 (by kernel_rfl) (by kernel_rfl) (fun x => ?_)) S.i_readRat_ok
  kernel_rfl
def ct_i_two : Ct := ⟨[PK.ro Kd.str, PK.ro Kd.str], true, [(true, [RC.ro (Kd.st (Kd.pair Kd.bool (Kd.pair (Kd.sl (Kd.int IntKind.u32)) (Kd.sl (Kd.int IntKind.u32)))))]),   (true, [RC.ro (Kd.st (Kd.pair Kd.bool (Kd.pair (Kd.sl (Kd.int IntKind.u32)) (Kd.sl (Kd.int IntKind.u32)))))]), (false, [RC.ro Kd.bool])], S.i_two⟩
theorem v_i_two (hM : InM gl) (hR : InR gl) (hS : InS gl) : Valid Go.Proofs.Tryd.prog gl 51 ct_i_two := by
  refine Valid.less (ps := [PK.ro Kd.str, PK.ro Kd.str]) (tup := true) (rs := [(true, [RC.ro (Kd.st (Kd.pair Kd.bool (Kd.pair (Kd.sl (Kd.int IntKind.u32)) (Kd.sl (Kd.int IntKind.u32)))))]),   (true, [RC.ro (Kd.st (Kd.pair Kd.bool (Kd.pair (Kd.sl (Kd.int IntKind.u32)) (Kd.sl (Kd.int IntKind.u32)))))]), (false, [RC.ro Kd.bool])]) (g := P.i_two) (fun k => valid (fx := ⟨⟨Go.Proofs.Tryd.prog, td, [(48, ct_i_readRat)], [], []⟩, k, []⟩) (fn := Go.Proofs.Tryd.f51) (c := Go.Proofs.Tryd.f51.body.getD .skip) mixed tdOk (ctsCons (v_i_readRat hM hR hS) (ctsNil _ _ _ _ _)) Go.Proofs.Tryd.func51 (by kernel_rfl) (by kernel_rfl) (fun x => ?_)) S.i_two_ok
  kernel_rfl
def ct_i_CompareFractions : Ct := ⟨[PK.ro Kd.str, PK.ro Kd.str], true, [(false, [RC.ro (Kd.int IntKind.i64)]), (false, [RC.ro Kd.bool])], S.i_CompareFractions⟩
theorem v_i_CompareFractions (hM : InM gl) (hR : InR gl) (hS : InS gl) : Valid Go.Proofs.Tryd.prog gl 28 ct_i_CompareFractions := by
  refine Valid.less (ps := [PK.ro Kd.str, PK.ro Kd.str]) (tup := true) (rs := [(false, [RC.ro (Kd.int IntKind.i64)]), (false, [RC.ro Kd.bool])]) (g := P.i_CompareFractions) (fun k => valid (fx := ⟨⟨Go.Proofs.Tryd.prog, td, [(52, ct_i_rat_compared), (51, ct_i_two)], [], []⟩, k, []⟩) (fn := Go.Proofs.Tryd.f28) (c := Go.Proofs.Tryd.f28.body.getD .skip) mixed tdOk (ctsCons v_i_rat_compared (ctsCons (v_i_two hM hR hS) (ctsNil _ _ _ _ _))) Go.Proofs.Tryd.func28 (by kernel_rfl) (by kernel_rfl) (fun x => ?_)) S.i_CompareFractions_ok
  kernel_rfl
def ct_s_l01Cmp : Ct := ⟨[PK.bo (Kd.sl (Kd.int IntKind.i64)), PK.bo (Kd.sl (Kd.int IntKind.i64))], false, [(false, [RC.ro (Kd.int IntKind.i64)])], S.s_l01Cmp⟩
theorem v_s_l01Cmp : Valid Go.Proofs.Tryd.prog gl 63 ct_s_l01Cmp := by
  refine Valid.less (ps := [PK.bo (Kd.sl (Kd.int IntKind.i64)), PK.bo (Kd.sl (Kd.int IntKind.i64))]) (tup := false) (rs := [(false, [RC.ro (Kd.int IntKind.i64)])]) (g := P.s_l01Cmp) (fun k => valid (fx := ⟨⟨Go.Proofs.Tryd.prog, td, [], [], []⟩, k, [(6, [(5, Sp.dat false (Kd.int IntKind.i64)), (0, Sp.dat true (Kd.sl (Kd.int IntKind.i64))),   (1, Sp.dat true (Kd.sl (Kd.int IntKind.i64)))])]⟩) (fn := Go.Proofs.Tryd.f63) (c := Go.Proofs.Tryd.f63.body.getD .skip) mixed tdOk (ctsNil _ _ _ _ _) Go.Proofs.Tryd.func63 (by kernel_rfl) (by kernel_rfl) (fun x => ?_)) S.s_l01Cmp_ok
  kernel_rfl
def ct_s_l01Trim : Ct := ⟨[PK.ro (Kd.sl (Kd.int IntKind.i64))], false, [(false, [RC.ro (Kd.sl (Kd.int IntKind.i64))])], S.s_l01Trim⟩
theorem v_s_l01Trim : Valid Go.Proofs.Tryd.prog gl 98 ct_s_l01Trim := by
  refine Valid.less (ps := [PK.ro (Kd.sl (Kd.int IntKind.i64))]) (tup := false) (rs := [(false, [RC.ro (Kd.sl (Kd.int IntKind.i64))])]) (g := P.s_l01Trim) (fun k => valid (fx := ⟨⟨Go.Proofs.Tryd.prog, td, [], [], []⟩, k, [(1, [(0, Sp.dat false (Kd.sl (Kd.int IntKind.i64)))])]⟩) (fn := Go.Proofs.Tryd.f98) (c := Go.Proofs.Tryd.f98.body.getD .skip) mixed tdOk (ctsNil _ _ _ _ _) Go.Proofs.Tryd.func98 (by kernel_rfl) (by kernel_rfl) (fun x => ?_)) S.s_l01Trim_ok
  kernel_rfl
def ct_s_l01NatMul : Ct := ⟨[PK.bo (Kd.sl (Kd.int IntKind.i64)), PK.bo (Kd.sl (Kd.int IntKind.i64))], false, [(false, [RC.ro (Kd.sl (Kd.int IntKind.i64))])], S.s_l01NatMul⟩
theorem v_s_l01NatMul : Valid Go.Proofs.Tryd.prog gl 77 ct_s_l01NatMul := by
  refine Valid.less (ps := [PK.bo (Kd.sl (Kd.int IntKind.i64)), PK.bo (Kd.sl (Kd.int IntKind.i64))]) (tup := false) (rs := [(false, [RC.ro (Kd.sl (Kd.int IntKind.i64))])]) (g := P.s_l01NatMul) (fun k => valid (fx := ⟨⟨Go.Proofs.Tryd.prog, td, [(98, ct_s_l01Trim)], [], []⟩, k, [(7, [(23, Sp.dat false (Kd.int IntKind.i64)), (22, Sp.dat false (Kd.int IntKind.i64)), (5, Sp.own (120) true (Kd.int IntKind.i64)),   (6, Sp.dat false (Kd.int IntKind.i64)), (0, Sp.dat true (Kd.sl (Kd.int IntKind.i64))),   (1, Sp.dat true (Kd.sl (Kd.int IntKind.i64))), (7, Sp.dat false (Kd.int IntKind.i64)), (18, Sp.dat false (Kd.int IntKind.i64)),   (17, Sp.dat false (Kd.int IntKind.i64))]), (3, [(18, Sp.dat false (Kd.int IntKind.i64)), (17, Sp.dat false (Kd.int IntKind.i64)), (1, Sp.dat true (Kd.sl (Kd.int IntKind.i64))),   (5, Sp.own (120) true (Kd.int IntKind.i64)), (0, Sp.dat true (Kd.sl (Kd.int IntKind.i64)))])]⟩) (fn := Go.Proofs.Tryd.f77) (c := Go.Proofs.Tryd.f77.body.getD .skip) mixed tdOk (ctsCons v_s_l01Trim (ctsNil _ _ _ _ _)) Go.Proofs.Tryd.func77 (by kernel_rfl) (by kernel_rfl) (fun x => ?_)) S.s_l01NatMul_ok
  kernel_rfl
def ct_s_l01Less : Ct := ⟨[PK.bo (Kd.st (Kd.pair Kd.bool (Kd.pair (Kd.sl (Kd.int IntKind.i64)) (Kd.sl (Kd.int IntKind.i64))))),   PK.bo (Kd.st (Kd.pair Kd.bool (Kd.pair (Kd.sl (Kd.int IntKind.i64)) (Kd.sl (Kd.int IntKind.i64)))))], false, [(false, [RC.ro Kd.bool])], S.s_l01Less⟩
theorem v_s_l01Less : Valid Go.Proofs.Tryd.prog gl 50 ct_s_l01Less := by
  refine Valid.less (ps := [PK.bo (Kd.st (Kd.pair Kd.bool (Kd.pair (Kd.sl (Kd.int IntKind.i64)) (Kd.sl (Kd.int IntKind.i64))))),   PK.bo (Kd.st (Kd.pair Kd.bool (Kd.pair (Kd.sl (Kd.int IntKind.i64)) (Kd.sl (Kd.int IntKind.i64)))))]) (tup := false) (rs := [(false, [RC.ro Kd.bool])]) (g := P.s_l01Less) (fun k => valid (fx := ⟨⟨Go.Proofs.Tryd.prog, td, [(63, ct_s_l01Cmp), (77, ct_s_l01NatMul)], [], []⟩, k, []⟩) (fn := Go.Proofs.Tryd.f50) (c := Go.Proofs.Tryd.f50.body.getD .skip) mixed tdOk (ctsCons v_s_l01Cmp (ctsCons v_s_l01NatMul (ctsNil _ _ _ _ _))) Go.Proofs.Tryd.func50 (by kernel_rfl) (by kernel_rfl) (fun x => ?_)) S.s_l01Less_ok
  kernel_rfl
def ct_s_l01Cut : Ct := ⟨[PK.ro Kd.str, PK.ro (Kd.int IntKind.u8)], false, [(false, [RC.ro (Kd.sl Kd.str)])], S.s_l01Cut⟩
theorem v_s_l01Cut : Valid Go.Proofs.Tryd.prog gl 58 ct_s_l01Cut := by
  refine Valid.less (ps := [PK.ro Kd.str, PK.ro (Kd.int IntKind.u8)]) (tup := false) (rs := [(false, [RC.ro (Kd.sl Kd.str)])]) (g := P.s_l01Cut) (fun k => valid (fx := ⟨⟨Go.Proofs.Tryd.prog, td, [], [], []⟩, k, [(4, [(7, Sp.dat false (Kd.int IntKind.i64)), (0, Sp.dat false Kd.str), (1, Sp.dat false (Kd.int IntKind.u8)),   (5, Sp.own (64) true Kd.str), (6, Sp.dat false (Kd.int IntKind.i64))])]⟩) (fn := Go.Proofs.Tryd.f58) (c := Go.Proofs.Tryd.f58.body.getD .skip) mixed tdOk (ctsNil _ _ _ _ _) Go.Proofs.Tryd.func58 (by kernel_rfl) (by kernel_rfl) (fun x => ?_)) S.s_l01Cut_ok
  kernel_rfl
def ct_s_l01Nat : Ct := ⟨[PK.ro (Kd.int IntKind.i64)], false, [(false, [RC.ro (Kd.sl (Kd.int IntKind.i64))])], S.s_l01Nat⟩
theorem v_s_l01Nat : Valid Go.Proofs.Tryd.prog gl 65 ct_s_l01Nat := by
  refine Valid.less (ps := [PK.ro (Kd.int IntKind.i64)]) (tup := false) (rs := [(false, [RC.ro (Kd.sl (Kd.int IntKind.i64))])]) (g := P.s_l01Nat) (fun k => valid (fx := ⟨⟨Go.Proofs.Tryd.prog, td, [], [], []⟩, k, [(2, [(0, Sp.dat false (Kd.int IntKind.i64)), (3, Sp.own (32) true (Kd.int IntKind.i64))])]⟩) (fn := Go.Proofs.Tryd.f65) (c := Go.Proofs.Tryd.f65.body.getD .skip) mixed tdOk (ctsNil _ _ _ _ _) Go.Proofs.Tryd.func65 (by kernel_rfl) (by kernel_rfl) (fun x => ?_)) S.s_l01Nat_ok
  kernel_rfl
def ct_s_l01Digit : Ct := ⟨[PK.bo (Kd.sl (Kd.int IntKind.i64)), PK.ro (Kd.int IntKind.i64)], false, [(false, [RC.ro (Kd.int IntKind.i64)])], S.s_l01Digit⟩
theorem v_s_l01Digit : Valid Go.Proofs.Tryd.prog gl 126 ct_s_l01Digit := by
  refine Valid.less (ps := [PK.bo (Kd.sl (Kd.int IntKind.i64)), PK.ro (Kd.int IntKind.i64)]) (tup := false) (rs := [(false, [RC.ro (Kd.int IntKind.i64)])]) (g := P.s_l01Digit) (fun k => valid (fx := ⟨⟨Go.Proofs.Tryd.prog, td, [], [], []⟩, k, []⟩) (fn := Go.Proofs.Tryd.f126) (c := Go.Proofs.Tryd.f126.body.getD .skip) mixed tdOk (ctsNil _ _ _ _ _) Go.Proofs.Tryd.func126 (by kernel_rfl) (by kernel_rfl) (fun x => ?_)) S.s_l01Digit_ok
  kernel_rfl
def ct_s_l01Small : Ct := ⟨[PK.bo (Kd.sl (Kd.int IntKind.i64))], true, [(false, [RC.ro (Kd.int IntKind.i64)]), (false, [RC.ro Kd.bool])], S.s_l01Small⟩
theorem v_s_l01Small : Valid Go.Proofs.Tryd.prog gl 93 ct_s_l01Small := by
  refine Valid.less (ps := [PK.bo (Kd.sl (Kd.int IntKind.i64))]) (tup := true) (rs := [(false, [RC.ro (Kd.int IntKind.i64)]), (false, [RC.ro Kd.bool])]) (g := P.s_l01Small) (fun k => valid (fx := ⟨⟨Go.Proofs.Tryd.prog, td, [(126, ct_s_l01Digit)], [], []⟩, k, []⟩) (fn := Go.Proofs.Tryd.f93) (c := Go.Proofs.Tryd.f93.body.getD .skip) mixed tdOk (ctsCons v_s_l01Digit (ctsNil _ _ _ _ _)) Go.Proofs.Tryd.func93 (by kernel_rfl) (by kernel_rfl) (fun x => ?_)) S.s_l01Small_ok
  kernel_rfl
def ct_s_l01ShortMul : Ct := ⟨[PK.bo (Kd.sl (Kd.int IntKind.i64)), PK.ro (Kd.int IntKind.i64)], false, [(false, [RC.own (Kd.int IntKind.i64)])], S.s_l01ShortMul⟩
theorem v_s_l01ShortMul : Valid Go.Proofs.Tryd.prog gl 95 ct_s_l01ShortMul := by
  refine Valid.less (ps := [PK.bo (Kd.sl (Kd.int IntKind.i64)), PK.ro (Kd.int IntKind.i64)]) (tup := false) (rs := [(false, [RC.own (Kd.int IntKind.i64)])]) (g := P.s_l01ShortMul) (fun k => valid (fx := ⟨⟨Go.Proofs.Tryd.prog, td, [], [], []⟩, k, [(4, [(16, Sp.dat false (Kd.int IntKind.i64)), (15, Sp.dat false (Kd.int IntKind.i64)), (14, Sp.dat true (Kd.sl (Kd.int IntKind.i64))),   (1, Sp.dat false (Kd.int IntKind.i64)), (6, Sp.dat false (Kd.int IntKind.i64)), (5, Sp.own (104) true (Kd.int IntKind.i64))])]⟩) (fn := Go.Proofs.Tryd.f95) (c := Go.Proofs.Tryd.f95.body.getD .skip) mixed tdOk (ctsNil _ _ _ _ _) Go.Proofs.Tryd.func95 (by kernel_rfl) (by kernel_rfl) (fun x => ?_)) S.s_l01ShortMul_ok
  kernel_rfl
def ct_s_l01ShortDiv : Ct := ⟨[PK.bo (Kd.sl (Kd.int IntKind.i64)), PK.ro (Kd.int IntKind.i64)], true, [(false, [RC.ro (Kd.sl (Kd.int IntKind.i64))]), (false, [RC.ro (Kd.int IntKind.i64)])], S.s_l01ShortDiv⟩
theorem v_s_l01ShortDiv : Valid Go.Proofs.Tryd.prog gl 94 ct_s_l01ShortDiv := by
  refine Valid.less (ps := [PK.bo (Kd.sl (Kd.int IntKind.i64)), PK.ro (Kd.int IntKind.i64)]) (tup := true) (rs := [(false, [RC.ro (Kd.sl (Kd.int IntKind.i64))]), (false, [RC.ro (Kd.int IntKind.i64)])]) (g := P.s_l01ShortDiv) (fun k => valid (fx := ⟨⟨Go.Proofs.Tryd.prog, td, [(98, ct_s_l01Trim)], [], []⟩, k, [(4, [(8, Sp.dat false (Kd.int IntKind.i64)), (7, Sp.dat false (Kd.int IntKind.i64)), (0, Sp.dat true (Kd.sl (Kd.int IntKind.i64))),   (6, Sp.own (96) true (Kd.int IntKind.i64)), (1, Sp.dat false (Kd.int IntKind.i64))])]⟩) (fn := Go.Proofs.Tryd.f94) (c := Go.Proofs.Tryd.f94.body.getD .skip) mixed tdOk (ctsCons v_s_l01Trim (ctsNil _ _ _ _ _)) Go.Proofs.Tryd.func94 (by kernel_rfl) (by kernel_rfl) (fun x => ?_)) S.s_l01ShortDiv_ok
  kernel_rfl
def ct_s_l01TakeOff : Ct := ⟨[PK.mu (Kd.int IntKind.i64), PK.bo (Kd.sl (Kd.int IntKind.i64)), PK.ro (Kd.int IntKind.i64), PK.ro (Kd.int IntKind.i64)], false, [(false, [RC.ro Kd.bool])], S.s_l01TakeOff⟩
theorem v_s_l01TakeOff : Valid Go.Proofs.Tryd.prog gl 96 ct_s_l01TakeOff := by
  refine Valid.less (ps := [PK.mu (Kd.int IntKind.i64), PK.bo (Kd.sl (Kd.int IntKind.i64)), PK.ro (Kd.int IntKind.i64), PK.ro (Kd.int IntKind.i64)]) (tup := false) (rs := [(false, [RC.ro Kd.bool])]) (g := P.s_l01TakeOff) (fun k => valid (fx := ⟨⟨Go.Proofs.Tryd.prog, td, [], [], []⟩, k, [(3, [(15, Sp.dat false (Kd.int IntKind.i64)), (14, Sp.dat false (Kd.int IntKind.i64)), (13, Sp.dat true (Kd.sl (Kd.int IntKind.i64))),   (0, Sp.own (0) false (Kd.int IntKind.i64)), (2, Sp.dat false (Kd.int IntKind.i64)), (3, Sp.dat false (Kd.int IntKind.i64)),   (9, Sp.dat false (Kd.int IntKind.i64)), (1, Sp.dat true (Kd.sl (Kd.int IntKind.i64)))])]⟩) (fn := Go.Proofs.Tryd.f96) (c := Go.Proofs.Tryd.f96.body.getD .skip) mixed tdOk (ctsNil _ _ _ _ _) Go.Proofs.Tryd.func96 (by kernel_rfl) (by kernel_rfl) (fun x => ?_)) S.s_l01TakeOff_ok
  kernel_rfl
def ct_s_l01PutBack : Ct := ⟨[PK.mu (Kd.int IntKind.i64), PK.bo (Kd.sl (Kd.int IntKind.i64)), PK.ro (Kd.int IntKind.i64)], true, [], S.s_l01PutBack⟩
theorem v_s_l01PutBack : Valid Go.Proofs.Tryd.prog gl 97 ct_s_l01PutBack := by
  refine Valid.less (ps := [PK.mu (Kd.int IntKind.i64), PK.bo (Kd.sl (Kd.int IntKind.i64)), PK.ro (Kd.int IntKind.i64)]) (tup := true) (rs := []) (g := P.s_l01PutBack) (fun k => valid (fx := ⟨⟨Go.Proofs.Tryd.prog, td, [], [], []⟩, k, [(2, [(12, Sp.dat false (Kd.int IntKind.i64)), (11, Sp.dat false (Kd.int IntKind.i64)), (10, Sp.dat true (Kd.sl (Kd.int IntKind.i64))),   (0, Sp.own (0) false (Kd.int IntKind.i64)), (2, Sp.dat false (Kd.int IntKind.i64)), (6, Sp.dat false (Kd.int IntKind.i64)),   (1, Sp.dat true (Kd.sl (Kd.int IntKind.i64)))])]⟩) (fn := Go.Proofs.Tryd.f97) (c := Go.Proofs.Tryd.f97.body.getD .skip) mixed tdOk (ctsNil _ _ _ _ _) Go.Proofs.Tryd.func97 (by kernel_rfl) (by kernel_rfl) (fun x => ?_)) S.s_l01PutBack_ok
  kernel_rfl
def ct_s_l01NatDiv : Ct := ⟨[PK.bo (Kd.sl (Kd.int IntKind.i64)), PK.bo (Kd.sl (Kd.int IntKind.i64))], true, [(false, [RC.ro (Kd.sl (Kd.int IntKind.i64))]), (false, [RC.ro (Kd.sl (Kd.int IntKind.i64))])], S.s_l01NatDiv⟩
theorem v_s_l01NatDiv : Valid Go.Proofs.Tryd.prog gl 64 ct_s_l01NatDiv := by
  refine Valid.less (ps := [PK.bo (Kd.sl (Kd.int IntKind.i64)), PK.bo (Kd.sl (Kd.int IntKind.i64))]) (tup := true) (rs := [(false, [RC.ro (Kd.sl (Kd.int IntKind.i64))]), (false, [RC.ro (Kd.sl (Kd.int IntKind.i64))])]) (g := P.s_l01NatDiv) (fun k => valid (fx := ⟨⟨Go.Proofs.Tryd.prog, td, [(98, ct_s_l01Trim), (65, ct_s_l01Nat), (63, ct_s_l01Cmp), (93, ct_s_l01Small), (95, ct_s_l01ShortMul), (94, ct_s_l01ShortDiv), (96, ct_s_l01TakeOff), (97, ct_s_l01PutBack)], [], []⟩, k, [(21, [(19, Sp.dat false (Kd.int IntKind.i64)), (14, Sp.dat false (Kd.sl (Kd.int IntKind.i64))),   (15, Sp.dat false (Kd.int IntKind.i64)), (20, Sp.dat false (Kd.int IntKind.i64)),   (13, Sp.own (624) true (Kd.int IntKind.i64)), (17, Sp.dat false (Kd.int IntKind.i64)),   (16, Sp.own (744) true (Kd.int IntKind.i64)), (12, Sp.dat false (Kd.int IntKind.i64))]), (17, [(17, Sp.dat false (Kd.int IntKind.i64)), (13, Sp.own (624) true (Kd.int IntKind.i64)), (15, Sp.dat false (Kd.int IntKind.i64)),   (14, Sp.dat false (Kd.sl (Kd.int IntKind.i64))), (16, Sp.own (744) true (Kd.int IntKind.i64)),   (12, Sp.dat false (Kd.int IntKind.i64))])]⟩) (fn := Go.Proofs.Tryd.f64) (c := Go.Proofs.Tryd.f64.body.getD .skip) mixed tdOk (ctsCons v_s_l01Trim (ctsCons v_s_l01Nat (ctsCons v_s_l01Cmp (ctsCons v_s_l01Small (ctsCons v_s_l01ShortMul (ctsCons v_s_l01ShortDiv (ctsCons v_s_l01TakeOff (ctsCons v_s_l01PutBack (ctsNil _ _ _ _ _))))))))) Go.Proofs.Tryd.func64 (by kernel_rfl) (by kernel_rfl) (fun x => ?_)) S.s_l01NatDiv_ok
  kernel_rfl
def ct_s_l01Gcd : Ct := ⟨[PK.ro (Kd.sl (Kd.int IntKind.i64)), PK.ro (Kd.sl (Kd.int IntKind.i64))], false, [(false, [RC.ro (Kd.sl (Kd.int IntKind.i64))])], S.s_l01Gcd⟩
theorem v_s_l01Gcd : Valid Go.Proofs.Tryd.prog gl 62 ct_s_l01Gcd := by
  refine Valid.less (ps := [PK.ro (Kd.sl (Kd.int IntKind.i64)), PK.ro (Kd.sl (Kd.int IntKind.i64))]) (tup := false) (rs := [(false, [RC.ro (Kd.sl (Kd.int IntKind.i64))])]) (g := P.s_l01Gcd) (fun k => valid (fx := ⟨⟨Go.Proofs.Tryd.prog, td, [(64, ct_s_l01NatDiv)], [], []⟩, k, [(1, [(1, Sp.dat false (Kd.sl (Kd.int IntKind.i64))), (0, Sp.dat false (Kd.sl (Kd.int IntKind.i64)))])]⟩) (fn := Go.Proofs.Tryd.f62) (c := Go.Proofs.Tryd.f62.body.getD .skip) mixed tdOk (ctsCons v_s_l01NatDiv (ctsNil _ _ _ _ _)) Go.Proofs.Tryd.func62 (by kernel_rfl) (by kernel_rfl) (fun x => ?_)) S.s_l01Gcd_ok
  kernel_rfl
def ct_s_l01NatRead : Ct := ⟨[PK.ro Kd.str], false, [(false, [RC.ro (Kd.sl (Kd.int IntKind.i64))])], S.s_l01NatRead⟩
theorem v_s_l01NatRead : Valid Go.Proofs.Tryd.prog gl 72 ct_s_l01NatRead := by
  refine Valid.less (ps := [PK.ro Kd.str]) (tup := false) (rs := [(false, [RC.ro (Kd.sl (Kd.int IntKind.i64))])]) (g := P.s_l01NatRead) (fun k => valid (fx := ⟨⟨Go.Proofs.Tryd.prog, td, [(98, ct_s_l01Trim)], [], []⟩, k, [(10, [(7, Sp.dat false (Kd.int IntKind.i64)), (4, Sp.dat false (Kd.int IntKind.i64)), (6, Sp.dat false (Kd.int IntKind.i64)),   (0, Sp.dat false Kd.str), (3, Sp.own (64) true (Kd.int IntKind.i64))]), (3, [(4, Sp.dat false (Kd.int IntKind.i64)), (0, Sp.dat false Kd.str), (3, Sp.own (64) true (Kd.int IntKind.i64))])]⟩) (fn := Go.Proofs.Tryd.f72) (c := Go.Proofs.Tryd.f72.body.getD .skip) mixed tdOk (ctsCons v_s_l01Trim (ctsNil _ _ _ _ _)) Go.Proofs.Tryd.func72 (by kernel_rfl) (by kernel_rfl) (fun x => ?_)) S.s_l01NatRead_ok
  kernel_rfl
def ct_s_l01Digits : Ct := ⟨[PK.ro Kd.str], false, [(false, [RC.ro Kd.bool])], S.s_l01Digits⟩
theorem v_s_l01Digits : Valid Go.Proofs.Tryd.prog gl 71 ct_s_l01Digits := by
  refine Valid.less (ps := [PK.ro Kd.str]) (tup := false) (rs := [(false, [RC.ro Kd.bool])]) (g := P.s_l01Digits) (fun k => valid (fx := ⟨⟨Go.Proofs.Tryd.prog, td, [], [], []⟩, k, [(2, [(3, Sp.dat false (Kd.int IntKind.i64)), (0, Sp.dat false Kd.str)])]⟩) (fn := Go.Proofs.Tryd.f71) (c := Go.Proofs.Tryd.f71.body.getD .skip) mixed tdOk (ctsNil _ _ _ _ _) Go.Proofs.Tryd.func71 (by kernel_rfl) (by kernel_rfl) (fun x => ?_)) S.s_l01Digits_ok
  kernel_rfl
def ct_s_l01Parse : Ct := ⟨[PK.ro Kd.str], true, [(true, [RC.ro (Kd.st (Kd.pair Kd.bool (Kd.pair (Kd.sl (Kd.int IntKind.i64)) (Kd.sl (Kd.int IntKind.i64)))))]), (false, [RC.ro Kd.bool])], S.s_l01Parse⟩
theorem v_s_l01Parse : Valid Go.Proofs.Tryd.prog gl 47 ct_s_l01Parse := by
  refine Valid.less (ps := [PK.ro Kd.str]) (tup := true) (rs := [(true, [RC.ro (Kd.st (Kd.pair Kd.bool (Kd.pair (Kd.sl (Kd.int IntKind.i64)) (Kd.sl (Kd.int IntKind.i64)))))]), (false, [RC.ro Kd.bool])]) (g := P.s_l01Parse) (fun k => valid (fx := ⟨⟨Go.Proofs.Tryd.prog, td, [(58, ct_s_l01Cut), (63, ct_s_l01Cmp), (62, ct_s_l01Gcd), (72, ct_s_l01NatRead), (71, ct_s_l01Digits)], [], []⟩, k, []⟩) (fn := Go.Proofs.Tryd.f47) (c := Go.Proofs.Tryd.f47.body.getD .skip) mixed tdOk (ctsCons v_s_l01Cut (ctsCons v_s_l01Cmp (ctsCons v_s_l01Gcd (ctsCons v_s_l01NatRead (ctsCons v_s_l01Digits (ctsNil _ _ _ _ _)))))) Go.Proofs.Tryd.func47 (by kernel_rfl) (by kernel_rfl) (fun x => ?_)) S.s_l01Parse_ok
  kernel_rfl
def ct_s_l01Two : Ct := ⟨[PK.ro Kd.str, PK.ro Kd.str], true, [(true, [RC.ro (Kd.st (Kd.pair Kd.bool (Kd.pair (Kd.sl (Kd.int IntKind.i64)) (Kd.sl (Kd.int IntKind.i64)))))]),   (true, [RC.ro (Kd.st (Kd.pair Kd.bool (Kd.pair (Kd.sl (Kd.int IntKind.i64)) (Kd.sl (Kd.int IntKind.i64)))))]), (false, [RC.ro Kd.bool])], S.s_l01Two⟩
theorem v_s_l01Two : Valid Go.Proofs.Tryd.prog gl 49 ct_s_l01Two := by
  refine Valid.less (ps := [PK.ro Kd.str, PK.ro Kd.str]) (tup := true) (rs := [(true, [RC.ro (Kd.st (Kd.pair Kd.bool (Kd.pair (Kd.sl (Kd.int IntKind.i64)) (Kd.sl (Kd.int IntKind.i64)))))]),   (true, [RC.ro (Kd.st (Kd.pair Kd.bool (Kd.pair (Kd.sl (Kd.int IntKind.i64)) (Kd.sl (Kd.int IntKind.i64)))))]), (false, [RC.ro Kd.bool])]) (g := P.s_l01Two) (fun k => valid (fx := ⟨⟨Go.Proofs.Tryd.prog, td, [(47, ct_s_l01Parse)], [], []⟩, k, []⟩) (fn := Go.Proofs.Tryd.f49) (c := Go.Proofs.Tryd.f49.body.getD .skip) mixed tdOk (ctsCons v_s_l01Parse (ctsNil _ _ _ _ _)) Go.Proofs.Tryd.func49 (by kernel_rfl) (by kernel_rfl) (fun x => ?_)) S.s_l01Two_ok
  kernel_rfl
def ct_s_CompareFractions : Ct := ⟨[PK.ro Kd.str, PK.ro Kd.str], true, [(false, [RC.ro (Kd.int IntKind.i64)]), (false, [RC.ro Kd.bool])], S.s_CompareFractions⟩
theorem v_s_CompareFractions : Valid Go.Proofs.Tryd.prog gl 27 ct_s_CompareFractions := by
  refine Valid.less (ps := [PK.ro Kd.str, PK.ro Kd.str]) (tup := true) (rs := [(false, [RC.ro (Kd.int IntKind.i64)]), (false, [RC.ro Kd.bool])]) (g := P.s_CompareFractions) (fun k => valid (fx := ⟨⟨Go.Proofs.Tryd.prog, td, [(50, ct_s_l01Less), (49, ct_s_l01Two)], [], []⟩, k, []⟩) (fn := Go.Proofs.Tryd.f27) (c := Go.Proofs.Tryd.f27.body.getD .skip) mixed tdOk (ctsCons v_s_l01Less (ctsCons v_s_l01Two (ctsNil _ _ _ _ _))) Go.Proofs.Tryd.func27 (by kernel_rfl) (by kernel_rfl) (fun x => ?_)) S.s_CompareFractions_ok
  kernel_rfl
def ct_l_FnExactCompareFractions : Ct := ⟨[PK.ro Kd.str, PK.ro Kd.str], false, [(false, [RC.ro Kd.bool])], S.l_FnExactCompareFractions⟩
theorem v_l_FnExactCompareFractions (hM : InM gl) (hR : InR gl) (hS : InS gl) : Valid Go.Proofs.Tryd.prog gl 9 ct_l_FnExactCompareFractions := by
  refine Valid.less (ps := [PK.ro Kd.str, PK.ro Kd.str]) (tup := false) (rs := [(false, [RC.ro Kd.bool])]) (g := P.l_FnExactCompareFractions) (fun k => valid (fx := ⟨⟨Go.Proofs.Tryd.prog, td, [(28, ct_i_CompareFractions), (27, ct_s_CompareFractions)], [], []⟩, k, []⟩) (fn := Go.Proofs.Tryd.f9) (c := Go.Proofs.Tryd.f9.body.getD .skip) mixed tdOk (ctsCons (v_i_CompareFractions hM hR hS) (ctsCons v_s_CompareFractions (ctsNil _ _ _ _ _))) Go.Proofs.Tryd.func9 (by kernel_rfl) (by kernel_rfl) (fun x => ?_)) S.l_FnExactCompareFractions_ok
  kernel_rfl
end Go.Cm.LnCompareFractions
end
