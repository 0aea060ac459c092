import Derived.Test.YtpjojckfnkomfaaGreatDoorPlLessFraction
import Derived.Test.YtpjojckfnkomfaaGreatDoorChecked
import Derived.Test.YtpjojckfnkomfaaGreatDoorTryzShelf
import Derived.WalkKit
import Derived.BigCall
import Derived.BigGuard
import Derived.Lib.ItoaMem
import Derived.Lib.AppendIntMem
set_option linter.unusedVariables false
set_option maxRecDepth 100000
noncomputable section
namespace Go.Cm.LnLessFraction
open Go.RowKit
variable {gl : List (Nat × List Value)}
theorem td2 : TdOk Go.Proofs.Tryz.prog 2 ⟨Kd.int IntKind.i64, 8, false, 0, []⟩ := .of (by kernel_rfl) (.inr (by kernel_rfl)) rfl (Go.Proofs.Tryz.underlying2)
theorem td3 : TdOk Go.Proofs.Tryz.prog 3 ⟨Kd.int IntKind.i64, 8, false, 0, []⟩ := .of (by kernel_rfl) (.inr (by kernel_rfl)) rfl (Go.Proofs.Tryz.underlying3)
theorem td4 : TdOk Go.Proofs.Tryz.prog 4 ⟨Kd.bool, 1, false, 0, []⟩ := .of (by kernel_rfl) (.inr (by kernel_rfl)) rfl (Go.Proofs.Tryz.underlying4)
theorem td5 : TdOk Go.Proofs.Tryz.prog 5 ⟨Kd.int IntKind.u8, 1, false, 0, []⟩ := .of (by kernel_rfl) (.inr (by kernel_rfl)) rfl (Go.Proofs.Tryz.underlying5)
theorem td9 : TdOk Go.Proofs.Tryz.prog 9 ⟨Kd.str, 16, false, 0, []⟩ := .of (by kernel_rfl) (.inr (by kernel_rfl)) rfl (Go.Proofs.Tryz.underlying9)
theorem td22 : TdOk Go.Proofs.Tryz.prog 22 ⟨Kd.sl Kd.str, 24, false, 9, []⟩ := .of (by kernel_rfl) (.inr (by kernel_rfl)) rfl (Go.Proofs.Tryz.underlying22)
theorem td44 : TdOk Go.Proofs.Tryz.prog 44 ⟨Kd.sl (Kd.int IntKind.i64), 24, false, 2, []⟩ := .of (by kernel_rfl) (.inr (by kernel_rfl)) rfl (Go.Proofs.Tryz.underlying44)
theorem td46 : TdOk Go.Proofs.Tryz.prog 46 ⟨Kd.st (Kd.pair Kd.bool (Kd.pair (Kd.sl (Kd.int IntKind.i64)) (Kd.sl (Kd.int IntKind.i64)))), 56, true, 0, [(0, 4), (1, 44), (2, 44)]⟩ := .of (by kernel_rfl) (.inr (by kernel_rfl)) rfl (⟨_, Go.Proofs.Tryz.underlying46, by kernel_rfl, by kernel_rfl⟩)
theorem td52 : TdOk Go.Proofs.Tryz.prog 52 ⟨Kd.sl (Kd.int IntKind.u32), 24, false, 108, []⟩ := .of (by kernel_rfl) (.inr (by kernel_rfl)) rfl (Go.Proofs.Tryz.underlying52)
theorem td54 : TdOk Go.Proofs.Tryz.prog 54 ⟨Kd.st (Kd.pair Kd.bool (Kd.pair (Kd.sl (Kd.int IntKind.u32)) (Kd.sl (Kd.int IntKind.u32)))), 56, true, 0, [(0, 4), (1, 52), (2, 52)]⟩ := .of (by kernel_rfl) (.inr (by kernel_rfl)) rfl (⟨_, Go.Proofs.Tryz.underlying54, by kernel_rfl, by kernel_rfl⟩)
theorem td76 : TdOk Go.Proofs.Tryz.prog 76 ⟨Kd.int IntKind.u64, 8, false, 0, []⟩ := .of (by kernel_rfl) (.inr (by kernel_rfl)) rfl (Go.Proofs.Tryz.underlying76)
theorem td108 : TdOk Go.Proofs.Tryz.prog 108 ⟨Kd.int IntKind.u32, 4, false, 0, []⟩ := .of (by kernel_rfl) (.inr (by kernel_rfl)) rfl (Go.Proofs.Tryz.underlying108)
theorem td109 : TdOk Go.Proofs.Tryz.prog 109 ⟨Kd.int IntKind.u64, 8, false, 0, []⟩ := .of (by kernel_rfl) (.inr (by kernel_rfl)) rfl (Go.Proofs.Tryz.underlying109)
theorem td119 : TdOk Go.Proofs.Tryz.prog 119 ⟨Kd.sl (Kd.int IntKind.u8), 24, false, 5, []⟩ := .of (by kernel_rfl) (.inr (by kernel_rfl)) rfl (Go.Proofs.Tryz.underlying119)
theorem td124 : TdOk Go.Proofs.Tryz.prog 124 ⟨Kd.er, 16, false, 0, []⟩ := .of (by kernel_rfl) (.inr (by kernel_rfl)) rfl (⟨_, Go.Proofs.Tryz.underlying124⟩)
def td : List (Nat × Td) := [(2, ⟨Kd.int IntKind.i64, 8, false, 0, []⟩), (3, ⟨Kd.int IntKind.i64, 8, false, 0, []⟩), (4, ⟨Kd.bool, 1, false, 0, []⟩), (5, ⟨Kd.int IntKind.u8, 1, false, 0, []⟩), (9, ⟨Kd.str, 16, false, 0, []⟩), (22, ⟨Kd.sl Kd.str, 24, false, 9, []⟩), (44, ⟨Kd.sl (Kd.int IntKind.i64), 24, false, 2, []⟩), (46, ⟨Kd.st (Kd.pair Kd.bool (Kd.pair (Kd.sl (Kd.int IntKind.i64)) (Kd.sl (Kd.int IntKind.i64)))), 56, true, 0, [(0, 4), (1, 44), (2, 44)]⟩), (52, ⟨Kd.sl (Kd.int IntKind.u32), 24, false, 108, []⟩), (54, ⟨Kd.st (Kd.pair Kd.bool (Kd.pair (Kd.sl (Kd.int IntKind.u32)) (Kd.sl (Kd.int IntKind.u32)))), 56, true, 0, [(0, 4), (1, 52), (2, 52)]⟩), (76, ⟨Kd.int IntKind.u64, 8, false, 0, []⟩), (108, ⟨Kd.int IntKind.u32, 4, false, 0, []⟩), (109, ⟨Kd.int IntKind.u64, 8, false, 0, []⟩), (119, ⟨Kd.sl (Kd.int IntKind.u8), 24, false, 5, []⟩), (124, ⟨Kd.er, 16, false, 0, []⟩)]
theorem tdOk : TdsOk ⟨Go.Proofs.Tryz.prog, td, [], [], []⟩ Go.Proofs.Tryz.prog := tdsCons td2 (tdsCons td3 (tdsCons td4 (tdsCons td5 (tdsCons td9 (tdsCons td22 (tdsCons td44 (tdsCons td46 (tdsCons td52 (tdsCons td54 (tdsCons td76 (tdsCons td108 (tdsCons td109 (tdsCons td119 (tdsCons td124 (tdsNil _ _ _ _)))))))))))))))
theorem mixed : Go.Proofs.Tryz.prog.follows .mixedOrders = true := by kernel_rfl
/-- Package-level variables that are laid. -/
def InP (gl : List (Nat × List Value)) : Prop := (1, Go.Lib.pow10Tab.map fun z => Value.int .u64 z) ∈ gl
def InM (gl : List (Nat × List Value)) : Prop := ∃ m, (0, [Value.int .i64 m]) ∈ gl
def InS (gl : List (Nat × List Value)) : Prop := ∃ t p, (2, [Value.iface t p]) ∈ gl
def InR (gl : List (Nat × List Value)) : Prop := ∃ t p, (3, [Value.iface t p]) ∈ gl
def ct_i_rat_minus : Ct := ⟨[PK.ro (Kd.st (Kd.pair Kd.bool (Kd.pair (Kd.sl (Kd.int IntKind.u32)) (Kd.sl (Kd.int IntKind.u32)))))], false, [(true, [RC.ro (Kd.st (Kd.pair Kd.bool (Kd.pair (Kd.sl (Kd.int IntKind.u32)) (Kd.sl (Kd.int IntKind.u32)))))])], S.i_rat_minus⟩
theorem v_i_rat_minus : Valid Go.Proofs.Tryz.prog gl 105 ct_i_rat_minus := by
  refine Valid.less (ps := [PK.ro (Kd.st (Kd.pair Kd.bool (Kd.pair (Kd.sl (Kd.int IntKind.u32)) (Kd.sl (Kd.int IntKind.u32)))))]) (tup := false) (rs := [(true, [RC.ro (Kd.st (Kd.pair Kd.bool (Kd.pair (Kd.sl (Kd.int IntKind.u32)) (Kd.sl (Kd.int IntKind.u32)))))])]) (g := P.i_rat_minus) (fun k => valid (fx := ⟨⟨Go.Proofs.Tryz.prog, td, [], [], []⟩, k, []⟩) (fn := Go.Proofs.Tryz.f105) (c := Go.Proofs.Tryz.f105.body.getD .skip) mixed tdOk (ctsNil _ _ _ _ _) Go.Proofs.Tryz.func105 (by kernel_rfl) (by kernel_rfl) (fun x => ?_)) S.i_rat_minus_ok
  kernel_rfl
def ct_i_nat_cmp : Ct := ⟨[PK.bo (Kd.sl (Kd.int IntKind.u32)), PK.bo (Kd.sl (Kd.int IntKind.u32))], false, [(false, [RC.ro (Kd.int IntKind.i64)])], S.i_nat_cmp⟩
theorem v_i_nat_cmp : Valid Go.Proofs.Tryz.prog gl 94 ct_i_nat_cmp := by
  refine Valid.less (ps := [PK.bo (Kd.sl (Kd.int IntKind.u32)), PK.bo (Kd.sl (Kd.int IntKind.u32))]) (tup := false) (rs := [(false, [RC.ro (Kd.int IntKind.i64)])]) (g := P.i_nat_cmp) (fun k => valid (fx := ⟨⟨Go.Proofs.Tryz.prog, td, [], [], []⟩, k, [(6, [(5, Sp.dat false (Kd.int IntKind.i64)), (0, Sp.dat true (Kd.sl (Kd.int IntKind.u32))),   (1, Sp.dat true (Kd.sl (Kd.int IntKind.u32)))])]⟩) (fn := Go.Proofs.Tryz.f94) (c := Go.Proofs.Tryz.f94.body.getD .skip) mixed tdOk (ctsNil _ _ _ _ _) Go.Proofs.Tryz.func94 (by kernel_rfl) (by kernel_rfl) (fun x => ?_)) S.i_nat_cmp_ok
  kernel_rfl
def ct_i_nat_trim : Ct := ⟨[PK.ro (Kd.sl (Kd.int IntKind.u32))], false, [(false, [RC.ro (Kd.sl (Kd.int IntKind.u32))])], S.i_nat_trim⟩
theorem v_i_nat_trim : Valid Go.Proofs.Tryz.prog gl 109 ct_i_nat_trim := by
  refine Valid.less (ps := [PK.ro (Kd.sl (Kd.int IntKind.u32))]) (tup := false) (rs := [(false, [RC.ro (Kd.sl (Kd.int IntKind.u32))])]) (g := P.i_nat_trim) (fun k => valid (fx := ⟨⟨Go.Proofs.Tryz.prog, td, [], [], []⟩, k, [(1, [(0, Sp.dat false (Kd.sl (Kd.int IntKind.u32)))])]⟩) (fn := Go.Proofs.Tryz.f109) (c := Go.Proofs.Tryz.f109.body.getD .skip) mixed tdOk (ctsNil _ _ _ _ _) Go.Proofs.Tryz.func109 (by kernel_rfl) (by kernel_rfl) (fun x => ?_)) S.i_nat_trim_ok
  kernel_rfl
def ct_i_nat_sub : Ct := ⟨[PK.bo (Kd.sl (Kd.int IntKind.u32)), PK.bo (Kd.sl (Kd.int IntKind.u32))], false, [(false, [RC.ro (Kd.sl (Kd.int IntKind.u32))])], S.i_nat_sub⟩
theorem v_i_nat_sub : Valid Go.Proofs.Tryz.prog gl 103 ct_i_nat_sub := by
  refine Valid.less (ps := [PK.bo (Kd.sl (Kd.int IntKind.u32)), PK.bo (Kd.sl (Kd.int IntKind.u32))]) (tup := false) (rs := [(false, [RC.ro (Kd.sl (Kd.int IntKind.u32))])]) (g := P.i_nat_sub) (fun k => valid (fx := ⟨⟨Go.Proofs.Tryz.prog, td, [(109, ct_i_nat_trim)], [], []⟩, k, [(3, [(14, Sp.dat false (Kd.int IntKind.i64)), (13, Sp.dat false (Kd.int IntKind.i64)), (0, Sp.dat true (Kd.sl (Kd.int IntKind.u32))),   (6, Sp.dat false (Kd.int IntKind.i64)), (1, Sp.dat true (Kd.sl (Kd.int IntKind.u32))),   (5, Sp.own (88) true (Kd.int IntKind.u32))])]⟩) (fn := Go.Proofs.Tryz.f103) (c := Go.Proofs.Tryz.f103.body.getD .skip) mixed tdOk (ctsCons v_i_nat_trim (ctsNil _ _ _ _ _)) Go.Proofs.Tryz.func103 (by kernel_rfl) (by kernel_rfl) (fun x => ?_)) S.i_nat_sub_ok
  kernel_rfl
def ct_i_nat_add : Ct := ⟨[PK.bo (Kd.sl (Kd.int IntKind.u32)), PK.bo (Kd.sl (Kd.int IntKind.u32))], false, [(false, [RC.ro (Kd.sl (Kd.int IntKind.u32))])], S.i_nat_add⟩
theorem v_i_nat_add : Valid Go.Proofs.Tryz.prog gl 98 ct_i_nat_add := by
  refine Valid.less (ps := [PK.bo (Kd.sl (Kd.int IntKind.u32)), PK.bo (Kd.sl (Kd.int IntKind.u32))]) (tup := false) (rs := [(false, [RC.ro (Kd.sl (Kd.int IntKind.u32))])]) (g := P.i_nat_add) (fun k => valid (fx := ⟨⟨Go.Proofs.Tryz.prog, td, [(109, ct_i_nat_trim)], [], []⟩, k, [(5, [(21, Sp.dat false (Kd.int IntKind.i64)), (20, Sp.dat false (Kd.int IntKind.i64)), (6, Sp.dat false (Kd.int IntKind.u64)),   (0, Sp.dat true (Kd.sl (Kd.int IntKind.u32))), (1, Sp.dat true (Kd.sl (Kd.int IntKind.u32))),   (5, Sp.own (144) true (Kd.int IntKind.u32))])]⟩) (fn := Go.Proofs.Tryz.f98) (c := Go.Proofs.Tryz.f98.body.getD .skip) mixed tdOk (ctsCons v_i_nat_trim (ctsNil _ _ _ _ _)) Go.Proofs.Tryz.func98 (by kernel_rfl) (by kernel_rfl) (fun x => ?_)) S.i_nat_add_ok
  kernel_rfl
def ct_i_nat_mul : Ct := ⟨[PK.bo (Kd.sl (Kd.int IntKind.u32)), PK.bo (Kd.sl (Kd.int IntKind.u32))], false, [(false, [RC.ro (Kd.sl (Kd.int IntKind.u32))])], S.i_nat_mul⟩
theorem v_i_nat_mul : Valid Go.Proofs.Tryz.prog gl 101 ct_i_nat_mul := by
  refine Valid.less (ps := [PK.bo (Kd.sl (Kd.int IntKind.u32)), PK.bo (Kd.sl (Kd.int IntKind.u32))]) (tup := false) (rs := [(false, [RC.ro (Kd.sl (Kd.int IntKind.u32))])]) (g := P.i_nat_mul) (fun k => valid (fx := ⟨⟨Go.Proofs.Tryz.prog, td, [(109, ct_i_nat_trim)], [], []⟩, k, [(7, [(26, Sp.dat false (Kd.int IntKind.i64)), (25, Sp.dat false (Kd.int IntKind.i64)), (24, Sp.dat true (Kd.sl (Kd.int IntKind.u32))),   (8, Sp.dat false (Kd.int IntKind.u64)), (7, Sp.dat false (Kd.int IntKind.u32)), (5, Sp.own (128) true (Kd.int IntKind.u32)),   (6, Sp.dat false (Kd.int IntKind.i64)), (1, Sp.dat true (Kd.sl (Kd.int IntKind.u32))), (19, Sp.dat false (Kd.int IntKind.i64)),   (18, Sp.dat false (Kd.int IntKind.i64)), (17, Sp.dat true (Kd.sl (Kd.int IntKind.u32)))]), (3, [(19, Sp.dat false (Kd.int IntKind.i64)), (18, Sp.dat false (Kd.int IntKind.i64)), (17, Sp.dat true (Kd.sl (Kd.int IntKind.u32))),   (1, Sp.dat true (Kd.sl (Kd.int IntKind.u32))), (5, Sp.own (128) true (Kd.int IntKind.u32))])]⟩) (fn := Go.Proofs.Tryz.f101) (c := Go.Proofs.Tryz.f101.body.getD .skip) mixed tdOk (ctsCons v_i_nat_trim (ctsNil _ _ _ _ _)) Go.Proofs.Tryz.func101 (by kernel_rfl) (by kernel_rfl) (fun x => ?_)) S.i_nat_mul_ok
  kernel_rfl
def ct_i_natOf : Ct := ⟨[PK.ro (Kd.int IntKind.u64)], false, [(false, [RC.ro (Kd.sl (Kd.int IntKind.u32))])], S.i_natOf⟩
theorem v_i_natOf : Valid Go.Proofs.Tryz.prog gl 70 ct_i_natOf := by
  refine Valid.less (ps := [PK.ro (Kd.int IntKind.u64)]) (tup := false) (rs := [(false, [RC.ro (Kd.sl (Kd.int IntKind.u32))])]) (g := P.i_natOf) (fun k => valid (fx := ⟨⟨Go.Proofs.Tryz.prog, td, [(109, ct_i_nat_trim)], [], []⟩, k, []⟩) (fn := Go.Proofs.Tryz.f70) (c := Go.Proofs.Tryz.f70.body.getD .skip) mixed tdOk (ctsCons v_i_nat_trim (ctsNil _ _ _ _ _)) Go.Proofs.Tryz.func70 (by kernel_rfl) (by kernel_rfl) (fun x => ?_)) S.i_natOf_ok
  kernel_rfl
def ct_math_bits_LeadingZeros32 : Ct := ⟨[PK.ro (Kd.int IntKind.u32)], false, [(false, [RC.ro (Kd.int IntKind.i64)])], S.math_bits_LeadingZeros32⟩
theorem v_math_bits_LeadingZeros32 : Valid Go.Proofs.Tryz.prog gl 134 ct_math_bits_LeadingZeros32 := by
  refine told_flat (enters_of Go.Proofs.Tryz.func134 (by kernel_rfl) (by kernel_rfl)) (fun _ _ _ _ _ _ => trivial) (fun w M0 W0 us x γ hl hW ha r hr => ?_)
  obtain ⟨n, q⟩ := x
  obtain ⟨u1, _, rfl, ⟨c1, h1, h1'⟩, rfl⟩ := ha
  cases h1'; subst h1
  unfold S.math_bits_LeadingZeros32 at hr
  split at hr
  case isFalse => cases hr
  rename_i hc
  cases hr
  refine (Go.Proofs.Tryz.bits_LeadingZeros32 n w hc.1 hc.2).mono ?_
  rintro e w' ⟨rfl, rfl⟩
  exact ⟨[_], rfl, Below.refl _ _, fun M' => ⟨[_], rfl, fun _ => rfl, rfl⟩⟩

def ct_i_nat_divSmall : Ct := ⟨[PK.bo (Kd.sl (Kd.int IntKind.u32)), PK.ro (Kd.int IntKind.u32)], true, [(false, [RC.ro (Kd.sl (Kd.int IntKind.u32))]), (false, [RC.ro (Kd.int IntKind.u32)])], S.i_nat_divSmall⟩
theorem v_i_nat_divSmall : Valid Go.Proofs.Tryz.prog gl 110 ct_i_nat_divSmall := by
  refine Valid.less (ps := [PK.bo (Kd.sl (Kd.int IntKind.u32)), PK.ro (Kd.int IntKind.u32)]) (tup := true) (rs := [(false, [RC.ro (Kd.sl (Kd.int IntKind.u32))]), (false, [RC.ro (Kd.int IntKind.u32)])]) (g := P.i_nat_divSmall) (fun k => valid (fx := ⟨⟨Go.Proofs.Tryz.prog, td, [(109, ct_i_nat_trim)], [], []⟩, k, [(3, [(8, Sp.dat false (Kd.int IntKind.i64)), (7, Sp.dat false (Kd.int IntKind.u64)), (0, Sp.dat true (Kd.sl (Kd.int IntKind.u32))),   (6, Sp.own (88) true (Kd.int IntKind.u32)), (1, Sp.dat false (Kd.int IntKind.u32))])]⟩) (fn := Go.Proofs.Tryz.f110) (c := Go.Proofs.Tryz.f110.body.getD .skip) mixed tdOk (ctsCons v_i_nat_trim (ctsNil _ _ _ _ _)) Go.Proofs.Tryz.func110 (by kernel_rfl) (by kernel_rfl) (fun x => ?_)) S.i_nat_divSmall_ok
  kernel_rfl
def ct_i_nat_shifted : Ct := ⟨[PK.bo (Kd.sl (Kd.int IntKind.u32)), PK.ro (Kd.int IntKind.i64)], false, [(false, [RC.own (Kd.int IntKind.u32)])], S.i_nat_shifted⟩
theorem v_i_nat_shifted : Valid Go.Proofs.Tryz.prog gl 135 ct_i_nat_shifted := by
  refine Valid.less (ps := [PK.bo (Kd.sl (Kd.int IntKind.u32)), PK.ro (Kd.int IntKind.i64)]) (tup := false) (rs := [(false, [RC.own (Kd.int IntKind.u32)])]) (g := P.i_nat_shifted) (fun k => valid (fx := ⟨⟨Go.Proofs.Tryz.prog, td, [], [], []⟩, k, [(3, [(15, Sp.dat false (Kd.int IntKind.i64)), (14, Sp.dat false (Kd.int IntKind.i64)), (13, Sp.dat true (Kd.sl (Kd.int IntKind.u32))),   (1, Sp.dat false (Kd.int IntKind.i64)), (5, Sp.own (96) true (Kd.int IntKind.u32))])]⟩) (fn := Go.Proofs.Tryz.f135) (c := Go.Proofs.Tryz.f135.body.getD .skip) mixed tdOk (ctsNil _ _ _ _ _) Go.Proofs.Tryz.func135 (by kernel_rfl) (by kernel_rfl) (fun x => ?_)) S.i_nat_shifted_ok
  kernel_rfl
def ct_i_takeAway : Ct := ⟨[PK.mu (Kd.int IntKind.u32), PK.bo (Kd.sl (Kd.int IntKind.u32)), PK.ro (Kd.int IntKind.u64)], false, [(false, [RC.ro Kd.bool])], S.i_takeAway⟩
theorem v_i_takeAway : Valid Go.Proofs.Tryz.prog gl 136 ct_i_takeAway := by
  refine Valid.less (ps := [PK.mu (Kd.int IntKind.u32), PK.bo (Kd.sl (Kd.int IntKind.u32)), PK.ro (Kd.int IntKind.u64)]) (tup := false) (rs := [(false, [RC.ro Kd.bool])]) (g := P.i_takeAway) (fun k => valid (fx := ⟨⟨Go.Proofs.Tryz.prog, td, [], [], []⟩, k, [(18, [(59, Sp.dat false (Kd.int IntKind.i64)), (58, Sp.dat false (Kd.int IntKind.i64)), (7, Sp.dat false (Kd.int IntKind.u64)),   (0, Sp.own (0) false (Kd.int IntKind.u32)), (1, Sp.dat true (Kd.sl (Kd.int IntKind.u32)))]), (3, [(14, Sp.dat false (Kd.int IntKind.i64)), (13, Sp.dat false (Kd.int IntKind.i64)), (1, Sp.dat true (Kd.sl (Kd.int IntKind.u32))),   (7, Sp.dat false (Kd.int IntKind.u64)), (2, Sp.dat false (Kd.int IntKind.u64)), (0, Sp.own (0) false (Kd.int IntKind.u32)),   (8, Sp.dat false (Kd.int IntKind.i64))])]⟩) (fn := Go.Proofs.Tryz.f136) (c := Go.Proofs.Tryz.f136.body.getD .skip) mixed tdOk (ctsNil _ _ _ _ _) Go.Proofs.Tryz.func136 (by kernel_rfl) (by kernel_rfl) (fun x => ?_)) S.i_takeAway_ok
  kernel_rfl
def ct_i_nat_div : Ct := ⟨[PK.ro (Kd.sl (Kd.int IntKind.u32)), PK.ro (Kd.sl (Kd.int IntKind.u32))], true, [(false, [RC.ro (Kd.sl (Kd.int IntKind.u32))]), (false, [RC.ro (Kd.sl (Kd.int IntKind.u32))])], S.i_nat_div⟩
theorem trimN_snoc (xs : List Int) (x : Int) : trimN (xs ++ [x]) = if x = 0 then trimN xs else xs.length + 1 := by
  unfold trimN
  rw [List.reverse_append]
  by_cases h : x = 0
  · simp [h]
  · simp [h]
theorem trimN_le (xs : List Int) : trimN xs ≤ xs.length := by
  unfold trimN
  have := (List.dropWhile_sublist (fun x : Int => x == 0) (l := xs.reverse)).length_le
  simpa using this
def lenOfV : Value → Nat
  | .slice _ m _ => m
  | _ => 0
set_option maxHeartbeats 800000 in
set_option maxRecDepth 100000 in
theorem trim_calls (b o real : Nat) (xs : List Int) (w : World) (hle : xs.length ≤ real) (hbig : xs.length ≤ 1000000000000) (hc : ∀ (i : Nat) (x : Int), xs[i]? = some x → w.cell? ⟨b, o + i, none⟩ = some (.int .u32 x)) :
    Calls Go.Proofs.Tryz.prog 109 #[.slice (some ⟨b, o, none⟩) xs.length real] w fun e w' => e = .returned (.slice (some ⟨b, o, none⟩) (trimN xs) real) ∧ w' = w := by
  go_enter Go.Proofs.Tryz.func109, Go.Proofs.Tryz.ntmps109
  go_wp2
  go_loopw [0] (fun v wr => ∃ m : Nat, m ≤ xs.length ∧ v = .slice (some ⟨b, o, none⟩) m real ∧ wr = w ∧ trimN (xs.take m) = trimN xs) (fun v _ => lenOfV v)
  case atStart => exact ⟨xs.length, Nat.le_refl _, rfl, rfl, by rw [List.take_length]⟩
  case round =>
    obtain ⟨m, hm, rfl, rfl, ht⟩ := hrel
    by_cases h0 : 0 < m
    · obtain ⟨k, rfl⟩ : ∃ k, m = k + 1 := ⟨m - 1, by omega⟩
      have hx : xs[k]? = some xs[k] := List.getElem?_eq_getElem (by omega)
      have hcx := hc k _ hx
      have hw : wrap64 (((k + 1 : Nat) : Int) - 1) = (k : Int) := by
        have e : ((k + 1 : Nat) : Int) - 1 = (k : Int) := by omega
        rw [e]
        exact IntWalk.wrap64_in _ (by omega)
      have ht' : trimN (xs.take (k + 1)) = if xs[k] = 0 then trimN (xs.take k) else k + 1 := by
        rw [← List.take_append_getElem (show k < xs.length by omega), trimN_snoc]
        have : (xs.take k).length = k := by simp; omega
        rw [this]
      go_wp2
      · have hz : (xs[k] == 0) = true := by assumption
        have hz' : xs[k] = 0 := by simpa using hz
        rw [if_pos hz'] at ht'
        exact ⟨⟨k, by omega, rfl, trivial, by rw [← ht', ht]⟩, Nat.lt_succ_self k⟩
      · have hz : (xs[k] == 0) = false := by assumption
        have hz' : ¬ xs[k] = 0 := by simpa using hz
        rw [if_neg hz'] at ht'
        rw [← ht, ht']
        go_ret
        exact ⟨rfl, rfl⟩
    · have h1 : m = 0 := by omega
      subst h1
      go_wp2
      have h2 : trimN xs = 0 := by rw [← ht]; rfl
      rw [h2]
      go_ret
      exact ⟨rfl, rfl⟩
set_option maxHeartbeats 800000 in
set_option maxRecDepth 100000 in
theorem trim_calls0 (A : Option Addr) (real : Nat) (w : World) :
    Calls Go.Proofs.Tryz.prog 109 #[.slice A 0 real] w fun e w' => e = .returned (.slice A 0 real) ∧ w' = w := by
  go_enter Go.Proofs.Tryz.func109, Go.Proofs.Tryz.ntmps109
  go_wp2
  refine wp_loop_rounds 1 ?_
  rw [rounds_succ]
  go_wp2
  go_ret
  exact ⟨rfl, rfl⟩
theorem shr_trim : ShrOk Go.Proofs.Tryz.prog 109 IntKind.u32 trimN := by
  refine ⟨enters_of Go.Proofs.Tryz.func109 (by kernel_rfl) (by kernel_rfl), fun w u xs A real hbig hsl hno hc => ?_⟩
  obtain ⟨A', rfl, hle, hA⟩ := hsl
  rcases Nat.eq_zero_or_pos real with h0 | h0
  · have h1 : xs = [] := List.eq_nil_of_length_eq_zero (by omega)
    subst h1
    refine (trim_calls0 A' real w).mono ?_
    rintro e w' ⟨rfl, rfl⟩
    exact ⟨rfl, Nat.le_refl _, _, rfl, rfl, A', rfl, Nat.zero_le _, fun h => by omega⟩
  · obtain ⟨b, o, rfl, rfl⟩ := hA h0
    refine (trim_calls b o real xs w hle hbig (hc b o rfl)).mono ?_
    rintro e w' ⟨rfl, rfl⟩
    have := trimN_le xs
    exact ⟨rfl, this, _, rfl, rfl, _, rfl, by omega, fun _ => ⟨b, o, rfl, rfl⟩⟩

theorem v_i_nat_div : Valid Go.Proofs.Tryz.prog gl 97 ct_i_nat_div := by
  refine Valid.less (ps := [PK.ro (Kd.sl (Kd.int IntKind.u32)), PK.ro (Kd.sl (Kd.int IntKind.u32))]) (tup := true) (rs := [(false, [RC.ro (Kd.sl (Kd.int IntKind.u32))]), (false, [RC.ro (Kd.sl (Kd.int IntKind.u32))])]) (g := P.i_nat_div) (fun k => valid (fx := ⟨⟨Go.Proofs.Tryz.prog, td, [(134, ct_math_bits_LeadingZeros32), (109, ct_i_nat_trim), (94, ct_i_nat_cmp), (110, ct_i_nat_divSmall), (135, ct_i_nat_shifted), (136, ct_i_takeAway)], [], [(109, IntKind.u32, trimN)]⟩, k, [(26, [(148, Sp.dat false (Kd.int IntKind.i64)), (147, Sp.dat false (Kd.int IntKind.i64)),   (9, Sp.own (400) true (Kd.int IntKind.u32)), (8, Sp.dat false (Kd.int IntKind.i64)),   (13, Sp.own (592) true (Kd.int IntKind.u32))]), (17, [(17, Sp.dat false (Kd.int IntKind.u64)), (12, Sp.dat false (Kd.int IntKind.u64)), (18, Sp.dat false (Kd.int IntKind.u64)),   (9, Sp.own (400) true (Kd.int IntKind.u32)), (15, Sp.dat false (Kd.int IntKind.i64)), (11, Sp.dat false (Kd.int IntKind.u64)),   (14, Sp.dat false (Kd.int IntKind.i64)), (10, Sp.dat false (Kd.sl (Kd.int IntKind.u32))),   (13, Sp.own (592) true (Kd.int IntKind.u32)), (8, Sp.dat false (Kd.int IntKind.i64))]), (12, [(14, Sp.dat false (Kd.int IntKind.i64)), (10, Sp.dat false (Kd.sl (Kd.int IntKind.u32))),   (9, Sp.own (400) true (Kd.int IntKind.u32)), (11, Sp.dat false (Kd.int IntKind.u64)), (12, Sp.dat false (Kd.int IntKind.u64)),   (13, Sp.own (592) true (Kd.int IntKind.u32)), (8, Sp.dat false (Kd.int IntKind.i64))])]⟩) (fn := Go.Proofs.Tryz.f97) (c := Go.Proofs.Tryz.f97.body.getD .skip) mixed tdOk (ctsCons v_math_bits_LeadingZeros32 (ctsCons v_i_nat_trim (ctsCons v_i_nat_cmp (ctsCons v_i_nat_divSmall (ctsCons v_i_nat_shifted (ctsCons v_i_takeAway (ctsShr shr_trim))))))) Go.Proofs.Tryz.func97 (by kernel_rfl) (by kernel_rfl) (fun x => ?_)) S.i_nat_div_ok
  kernel_rfl
def ct_i_nat_small : Ct := ⟨[PK.bo (Kd.sl (Kd.int IntKind.u32))], true, [(false, [RC.ro (Kd.int IntKind.u64)]), (false, [RC.ro Kd.bool])], S.i_nat_small⟩
theorem v_i_nat_small : Valid Go.Proofs.Tryz.prog gl 133 ct_i_nat_small := by
  refine Valid.less (ps := [PK.bo (Kd.sl (Kd.int IntKind.u32))]) (tup := true) (rs := [(false, [RC.ro (Kd.int IntKind.u64)]), (false, [RC.ro Kd.bool])]) (g := P.i_nat_small) (fun k => valid (fx := ⟨⟨Go.Proofs.Tryz.prog, td, [], [], []⟩, k, [(3, [(5, Sp.dat false (Kd.int IntKind.i64)), (0, Sp.dat true (Kd.sl (Kd.int IntKind.u32))), (4, Sp.dat false (Kd.int IntKind.u64))])]⟩) (fn := Go.Proofs.Tryz.f133) (c := Go.Proofs.Tryz.f133.body.getD .skip) mixed tdOk (ctsNil _ _ _ _ _) Go.Proofs.Tryz.func133 (by kernel_rfl) (by kernel_rfl) (fun x => ?_)) S.i_nat_small_ok
  kernel_rfl
def ct_i_nat_gcd : Ct := ⟨[PK.ro (Kd.sl (Kd.int IntKind.u32)), PK.ro (Kd.sl (Kd.int IntKind.u32))], false, [(false, [RC.ro (Kd.sl (Kd.int IntKind.u32))])], S.i_nat_gcd⟩
theorem v_i_nat_gcd : Valid Go.Proofs.Tryz.prog gl 95 ct_i_nat_gcd := by
  refine Valid.less (ps := [PK.ro (Kd.sl (Kd.int IntKind.u32)), PK.ro (Kd.sl (Kd.int IntKind.u32))]) (tup := false) (rs := [(false, [RC.ro (Kd.sl (Kd.int IntKind.u32))])]) (g := P.i_nat_gcd) (fun k => valid (fx := ⟨⟨Go.Proofs.Tryz.prog, td, [(70, ct_i_natOf), (133, ct_i_nat_small), (97, ct_i_nat_div)], [], []⟩, k, [(5, [(7, Sp.dat false (Kd.int IntKind.u64)), (5, Sp.dat false (Kd.int IntKind.u64))]), (1, [(1, Sp.dat false (Kd.sl (Kd.int IntKind.u32))), (0, Sp.dat false (Kd.sl (Kd.int IntKind.u32)))])]⟩) (fn := Go.Proofs.Tryz.f95) (c := Go.Proofs.Tryz.f95.body.getD .skip) mixed tdOk (ctsCons v_i_natOf (ctsCons v_i_nat_small (ctsCons v_i_nat_div (ctsNil _ _ _ _ _)))) Go.Proofs.Tryz.func95 (by kernel_rfl) (by kernel_rfl) (fun x => ?_)) S.i_nat_gcd_ok
  kernel_rfl
def ct_i_lowest : Ct := ⟨[PK.ro Kd.bool, PK.ro (Kd.sl (Kd.int IntKind.u32)), PK.ro (Kd.sl (Kd.int IntKind.u32))], false, [(true, [RC.ro (Kd.st (Kd.pair Kd.bool (Kd.pair (Kd.sl (Kd.int IntKind.u32)) (Kd.sl (Kd.int IntKind.u32)))))])], S.i_lowest⟩
theorem v_i_lowest : Valid Go.Proofs.Tryz.prog gl 69 ct_i_lowest := by
  refine Valid.less (ps := [PK.ro Kd.bool, PK.ro (Kd.sl (Kd.int IntKind.u32)), PK.ro (Kd.sl (Kd.int IntKind.u32))]) (tup := false) (rs := [(true, [RC.ro (Kd.st (Kd.pair Kd.bool (Kd.pair (Kd.sl (Kd.int IntKind.u32)) (Kd.sl (Kd.int IntKind.u32)))))])]) (g := P.i_lowest) (fun k => valid (fx := ⟨⟨Go.Proofs.Tryz.prog, td, [(70, ct_i_natOf), (97, ct_i_nat_div), (95, ct_i_nat_gcd)], [], []⟩, k, []⟩) (fn := Go.Proofs.Tryz.f69) (c := Go.Proofs.Tryz.f69.body.getD .skip) mixed tdOk (ctsCons v_i_natOf (ctsCons v_i_nat_div (ctsCons v_i_nat_gcd (ctsNil _ _ _ _ _)))) Go.Proofs.Tryz.func69 (by kernel_rfl) (by kernel_rfl) (fun x => ?_)) S.i_lowest_ok
  kernel_rfl
def ct_i_rat_sign : Ct := ⟨[PK.bo (Kd.st (Kd.pair Kd.bool (Kd.pair (Kd.sl (Kd.int IntKind.u32)) (Kd.sl (Kd.int IntKind.u32)))))], false, [(false, [RC.ro (Kd.int IntKind.i64)])], S.i_rat_sign⟩
theorem v_i_rat_sign : Valid Go.Proofs.Tryz.prog gl 53 ct_i_rat_sign := by
  refine Valid.less (ps := [PK.bo (Kd.st (Kd.pair Kd.bool (Kd.pair (Kd.sl (Kd.int IntKind.u32)) (Kd.sl (Kd.int IntKind.u32)))))]) (tup := false) (rs := [(false, [RC.ro (Kd.int IntKind.i64)])]) (g := P.i_rat_sign) (fun k => valid (fx := ⟨⟨Go.Proofs.Tryz.prog, td, [], [], []⟩, k, []⟩) (fn := Go.Proofs.Tryz.f53) (c := Go.Proofs.Tryz.f53.body.getD .skip) mixed tdOk (ctsNil _ _ _ _ _) Go.Proofs.Tryz.func53 (by kernel_rfl) (by kernel_rfl) (fun x => ?_)) S.i_rat_sign_ok
  kernel_rfl
def ct_i_rat_add : Ct := ⟨[PK.ro (Kd.st (Kd.pair Kd.bool (Kd.pair (Kd.sl (Kd.int IntKind.u32)) (Kd.sl (Kd.int IntKind.u32))))),   PK.ro (Kd.st (Kd.pair Kd.bool (Kd.pair (Kd.sl (Kd.int IntKind.u32)) (Kd.sl (Kd.int IntKind.u32)))))], false, [(true, [RC.ro (Kd.st (Kd.pair Kd.bool (Kd.pair (Kd.sl (Kd.int IntKind.u32)) (Kd.sl (Kd.int IntKind.u32)))))])], S.i_rat_add⟩
theorem v_i_rat_add : Valid Go.Proofs.Tryz.prog gl 61 ct_i_rat_add := by
  refine Valid.less (ps := [PK.ro (Kd.st (Kd.pair Kd.bool (Kd.pair (Kd.sl (Kd.int IntKind.u32)) (Kd.sl (Kd.int IntKind.u32))))),   PK.ro (Kd.st (Kd.pair Kd.bool (Kd.pair (Kd.sl (Kd.int IntKind.u32)) (Kd.sl (Kd.int IntKind.u32)))))]) (tup := false) (rs := [(true, [RC.ro (Kd.st (Kd.pair Kd.bool (Kd.pair (Kd.sl (Kd.int IntKind.u32)) (Kd.sl (Kd.int IntKind.u32)))))])]) (g := P.i_rat_add) (fun k => valid (fx := ⟨⟨Go.Proofs.Tryz.prog, td, [(94, ct_i_nat_cmp), (103, ct_i_nat_sub), (98, ct_i_nat_add), (101, ct_i_nat_mul), (69, ct_i_lowest), (53, ct_i_rat_sign)], [], []⟩, k, []⟩) (fn := Go.Proofs.Tryz.f61) (c := Go.Proofs.Tryz.f61.body.getD .skip) mixed tdOk (ctsCons v_i_nat_cmp (ctsCons v_i_nat_sub (ctsCons v_i_nat_add (ctsCons v_i_nat_mul (ctsCons v_i_lowest (ctsCons v_i_rat_sign (ctsNil _ _ _ _ _))))))) Go.Proofs.Tryz.func61 (by kernel_rfl) (by kernel_rfl) (fun x => ?_)) S.i_rat_add_ok
  kernel_rfl
def ct_i_rat_sub : Ct := ⟨[PK.ro (Kd.st (Kd.pair Kd.bool (Kd.pair (Kd.sl (Kd.int IntKind.u32)) (Kd.sl (Kd.int IntKind.u32))))),   PK.ro (Kd.st (Kd.pair Kd.bool (Kd.pair (Kd.sl (Kd.int IntKind.u32)) (Kd.sl (Kd.int IntKind.u32)))))], false, [(true, [RC.ro (Kd.st (Kd.pair Kd.bool (Kd.pair (Kd.sl (Kd.int IntKind.u32)) (Kd.sl (Kd.int IntKind.u32)))))])], S.i_rat_sub⟩
theorem v_i_rat_sub : Valid Go.Proofs.Tryz.prog gl 63 ct_i_rat_sub := by
  refine Valid.less (ps := [PK.ro (Kd.st (Kd.pair Kd.bool (Kd.pair (Kd.sl (Kd.int IntKind.u32)) (Kd.sl (Kd.int IntKind.u32))))),   PK.ro (Kd.st (Kd.pair Kd.bool (Kd.pair (Kd.sl (Kd.int IntKind.u32)) (Kd.sl (Kd.int IntKind.u32)))))]) (tup := false) (rs := [(true, [RC.ro (Kd.st (Kd.pair Kd.bool (Kd.pair (Kd.sl (Kd.int IntKind.u32)) (Kd.sl (Kd.int IntKind.u32)))))])]) (g := P.i_rat_sub) (fun k => valid (fx := ⟨⟨Go.Proofs.Tryz.prog, td, [(105, ct_i_rat_minus), (61, ct_i_rat_add)], [], []⟩, k, []⟩) (fn := Go.Proofs.Tryz.f63) (c := Go.Proofs.Tryz.f63.body.getD .skip) mixed tdOk (ctsCons v_i_rat_minus (ctsCons v_i_rat_add (ctsNil _ _ _ _ _))) Go.Proofs.Tryz.func63 (by kernel_rfl) (by kernel_rfl) (fun x => ?_)) S.i_rat_sub_ok
  kernel_rfl
def ct_strconv_FormatUint : Ct := ⟨[PK.ro (Kd.int IntKind.u64), PK.ro (Kd.int IntKind.i64)], false, [(false, [RC.ro Kd.str])], S.strconv_FormatUint⟩
set_option maxHeartbeats 6400000 in
set_option maxRecDepth 100000 in
open Go.Proofs Go.Shelf Go.RowKit Go.Sort Go.Lib in
theorem fu_small (i : Nat) (hi : i < 100) (w : World) :
    Calls Go.Proofs.Tryz.prog 137 #[.int .u64 i, .int .i64 10] w fun e w' => e = .returned (.string ⟨(Lib.decDigits i).toArray⟩) ∧ w' = w := by
  have eSm : ∀ args w, (callFunc 147 args).run Go.Proofs.Tryz.prog w = .ok (.enter 147 args) w := Go.Proofs.enters_of Go.Proofs.Tryz.func147 (by kernel_rfl) rfl
  go_enter Go.Proofs.Tryz.func137, Go.Proofs.Tryz.ntmps137
  go_wp2_with (go_at_fn 147; refine (Go.Proofs.Tryz.internal_strconv_small i hi _).mono ?_; rintro e w' ⟨rfl, rfl⟩)
  go_ret
  exact ⟨rfl, rfl⟩
set_option maxHeartbeats 12800000 in
set_option maxRecDepth 100000 in
open Go.Proofs Go.Shelf Go.RowKit Go.Sort Go.Lib in
theorem fu_big (u : Nat) (hu : 100 ≤ u) (hu64 : u < 18446744073709551616) (w : World)
    (htab : Lib.TabIs Go.Proofs.Tryz.prog w "internal/strconv.uint64pow10" .u64 Lib.pow10Tab) :
    Calls Go.Proofs.Tryz.prog 137 #[.int .u64 u, .int .i64 10] w fun e w' => e = .returned (.string ⟨(Lib.decDigits u).toArray⟩) ∧ ∃ k os, w' = grow (w.drewN k) os := by
  have eNd : ∀ args w, (callFunc 148 args).run Go.Proofs.Tryz.prog w = .ok (.enter 148 args) w := Go.Proofs.enters_of Go.Proofs.Tryz.func148 (by kernel_rfl) rfl
  have eFb : ∀ args w, (callFunc 149 args).run Go.Proofs.Tryz.prog w = .ok (.enter 149 args) w := Go.Proofs.enters_of Go.Proofs.Tryz.func149 (by kernel_rfl) rfl
  have hu1 : 1 ≤ u := by omega
  have hnd20 : Lib.nDigits u ≤ 20 := by have := Lib.numDigits_eq u hu1 hu64; split at this <;> omega
  have hal : Go.Proofs.Tryz.prog.arrayLen 153 = 24 := by simp [Program.arrayLen, Go.Proofs.Tryz.underlying153]
  have hsl : ∀ W, (Instr.sliceAt 153 (.pointer (some ⟨w.heap.size, 0, none⟩)) none (some (.int .i64 (Lib.nDigits u : Int))) none).run Go.Proofs.Tryz.prog W = .ok (.slice (some ⟨w.heap.size, 0, none⟩) (Lib.nDigits u) 24) W := fun W => by
    rw [run_sliceAt_array_h W 153 ⟨w.heap.size, 0, none⟩ (by simp [Program.arrayLen, Program.elem, Go.Proofs.Tryz.underlying153]) .i64 (Lib.nDigits u : Int) (by omega) (by rw [hal]; omega)]
    go_simp
  have hH0 := Lib.holds_zero0 w 153 (Lib.nDigits u) (by omega)
  have hfmt := Go.Proofs.Tryz.internal_strconv_formatBase10 w.heap.size 0 24 u (Array.replicate (Lib.nDigits u) 0) (w.alloc (.cells Lib.zeros24 153)) hH0 (by rw [Array.size_replicate]; exact Lib.lt_pow_nDigits u) hu64 (by rw [Array.size_replicate]; omega)
  rw [Array.size_replicate] at hfmt
  have HH0 := Lib.hid hH0
  have iu : (100 : Int) ≤ (u : Int) := by omega
  clear hH0 hal
  go_enter Go.Proofs.Tryz.func137, Go.Proofs.Tryz.ntmps137
  go_wp2_with (first
    | (go_at_fn 148; refine (Go.Proofs.Tryz.internal_strconv_numDigits u hu1 hu64 _ (Lib.tabIs_alloc htab _)).mono ?_; rintro e w' ⟨rfl, rfl⟩))
  go_at_fn 149
  refine hfmt.mono ?_
  rintro e w' ⟨rfl, k, v', dk, rfl, hF⟩
  have hcv : (convert 119 9 (.slice (some ⟨w.heap.size, 0, none⟩) (Lib.nDigits u) 24)).run Go.Proofs.Tryz.prog ((putRow (fun (b : UInt8) => Value.int .u8 (b.toNat : Int)) (w.alloc (.cells Lib.zeros24 153)) w.heap.size 0 dk).drewN k) = .ok (.string ⟨(Lib.decDigits u).toArray⟩) ((putRow (fun (b : UInt8) => Value.int .u8 (b.toNat : Int)) (w.alloc (.cells Lib.zeros24 153)) w.heap.size 0 dk).drewN k) := by
    have h := run_convert_bytes_back (P := Go.Proofs.Tryz.prog) ((putRow (fun (b : UInt8) => Value.int .u8 (b.toNat : Int)) (w.alloc (.cells Lib.zeros24 153)) w.heap.size 0 dk).drewN k) 119 9 5 ⟨w.heap.size, 0, none⟩ 24 (Lib.decDigits u) Go.Proofs.Tryz.underlying119 Go.Proofs.Tryz.underlying5 Go.Proofs.Tryz.underlying9 (fun j hj => by
      rw [Lib.row_is_numeral hF j hj, Lib.add_plain, World.cell?_drewN]
      exact cell?_putRow (fun (b : UInt8) => Value.int .u8 (b.toNat : Int)) _ w.heap.size 0 _ dk HH0.out (by rw [hF.size, Array.size_replicate]) j (by rw [hF.size]; rw [Lib.decDigits_length] at hj; exact hj))
    rw [Lib.decDigits_length] at h
    exact h
  go_wp2
  go_ret
  obtain ⟨os, eo⟩ := Lib.fin_at w (.cells Lib.zeros24 153) dk k 0
  exact ⟨rfl, k, os, eo⟩
set_option maxRecDepth 100000 in
open Go.Proofs Go.Shelf Go.RowKit Go.Sort Go.Lib in
theorem fu_pub (n : Nat) (h : n < 18446744073709551616) (w : World)
    (htab : Lib.TabIs Go.Proofs.Tryz.prog w "internal/strconv.uint64pow10" .u64 Lib.pow10Tab) :
    Calls Go.Proofs.Tryz.prog 111 #[.int .u64 n, .int .i64 10] w fun e w' => e = .returned (.string ⟨(Lib.decDigits n).toArray⟩) ∧ ∃ k os, w' = grow (w.drewN k) os := by
  have eFu : ∀ args w, (callFunc 137 args).run Go.Proofs.Tryz.prog w = .ok (.enter 137 args) w := Go.Proofs.enters_of Go.Proofs.Tryz.func137 (by kernel_rfl) rfl
  have hin : Calls Go.Proofs.Tryz.prog 137 #[.int .u64 n, .int .i64 10] w fun e w' => e = .returned (.string ⟨(Lib.decDigits n).toArray⟩) ∧ ∃ k os, w' = grow (w.drewN k) os := by
    by_cases h1 : n < 100
    · refine (fu_small n h1 w).mono ?_
      rintro e w' ⟨rfl, rfl⟩
      exact ⟨rfl, 0, #[], by simp [World.drewN_zero]⟩
    · exact fu_big n (by omega) h w htab
  go_enter Go.Proofs.Tryz.func111, Go.Proofs.Tryz.ntmps111
  go_wp2_with (go_at_fn 137; refine hin.mono ?_; rintro e w' ⟨rfl, k, os, rfl⟩)
  go_ret
  exact ⟨rfl, k, os, rfl⟩
theorem belowGrowU (w : World) (k : Nat) (os : Array Obj) : Below w.heap.size w (Go.Sort.grow (w.drewN k) os) := ⟨rfl, rfl, rfl, by simp [Go.Sort.grow, World.drewN], fun b hb => by simp [Go.Sort.grow, World.drewN, Array.getElem?_append_left hb]⟩
theorem v_strconv_FormatUint (hP : InP gl) : Valid Go.Proofs.Tryz.prog gl 111 ct_strconv_FormatUint := by
  refine told_flat (enters_of Go.Proofs.Tryz.func111 (by kernel_rfl) (by kernel_rfl)) (fun _ _ _ _ _ _ => trivial) (fun w M0 W0 us x γ hl hW ha r hr => ?_)
  obtain ⟨n, b, q⟩ := x
  obtain ⟨u1, _, rfl, ⟨c1, h1, h1'⟩, u2, _, rfl, ⟨c2, h2, h2'⟩, rfl⟩ := ha
  cases h1'; cases h2'; subst h1; subst h2
  unfold S.strconv_FormatUint at hr
  split at hr
  case isFalse => cases hr
  rename_i hc
  obtain ⟨hb, h0, h3⟩ := hc
  cases hr
  dsimp only at hb h0 h3
  subst hb
  obtain ⟨m, rfl⟩ : ∃ m : Nat, n = (m : Int) := ⟨n.toNat, (Int.toNat_of_nonneg h0).symm⟩
  rw [Int.toNat_natCast]
  have htab : Lib.TabIs Go.Proofs.Tryz.prog w "internal/strconv.uint64pow10" .u64 Lib.pow10Tab := laid_var hl hP (by kernel_rfl)
  refine (fu_pub m (by omega) w htab).mono ?_
  rintro e w' ⟨rfl, k, os, rfl⟩
  exact ⟨[_], rfl, belowGrowU _ _ _, fun M' => ⟨[_], rfl, fun _ => rfl, rfl⟩⟩

def ct_strings_Join : Ct := ⟨[PK.bo (Kd.sl Kd.str), PK.ro Kd.str], false, [(false, [RC.ro Kd.str])], S.strings_Join⟩
theorem v_strings_Join : Valid Go.Proofs.Tryz.prog gl 113 ct_strings_Join := by
  refine told_flat (enters_of Go.Proofs.Tryz.func113 (by kernel_rfl) (by kernel_rfl)) (fun _ _ _ _ _ _ => trivial) (fun w M0 W0 us x γ hl hW ha r hr => ?_)
  obtain ⟨xs, sep, q⟩ := x
  obtain ⟨u1, _, rfl, ⟨c1, h1, h1'⟩, u2, _, rfl, ⟨c2, h2, h2'⟩, rfl⟩ := ha
  cases h2'; subst h2
  obtain ⟨A, c, rfl, hlc, hel⟩ := h1'
  subst h1
  unfold S.strings_Join at hr
  split at hr
  case isFalse => cases hr
  rename_i hc
  obtain ⟨hn, hj⟩ := hc
  cases hr
  dsimp only at hn hj
  by_cases h0 : xs.length = 0
  · have : xs = [] := List.eq_nil_of_length_eq_zero h0
    subst this
    refine (Go.Proofs.Tryz.strings_Join_none A c sep w).mono ?_
    rintro e w' ⟨rfl, rfl⟩
    exact ⟨[_], rfl, Below.refl _ _, fun M' => ⟨[_], rfl, fun _ => rfl, rfl⟩⟩
  · obtain ⟨b, o, rfl, hcell⟩ := hel h0
    have hcells : ∀ (j : Nat) x, xs[j]? = some x → w.cell? ⟨b, o + j, none⟩ = some (.string x) := by
      intro j x hx
      obtain ⟨es, e1, e2⟩ := hcell j x hx
      cases e1
      have := (e2 0 _ rfl).1
      simpa [Kd.sz] using this
    have hbk : b < w.heap.size := by
      have := hcells 0 xs[0] (List.getElem?_eq_getElem (by omega))
      exact World.block_lt_of_cell? _ _ this
    refine (Go.Proofs.Tryz.strings_Join b o c xs sep w hcells hbk hn hlc hj).mono ?_
    rintro e w' ⟨rfl, hbl⟩
    exact ⟨[_], rfl, hbl, fun M' => ⟨[_], rfl, fun _ => rfl, rfl⟩⟩

def ct_strings_Repeat : Ct := ⟨[PK.ro Kd.str, PK.ro (Kd.int IntKind.i64)], false, [(false, [RC.ro Kd.str])], S.strings_Repeat⟩
theorem v_strings_Repeat : Valid Go.Proofs.Tryz.prog gl 72 ct_strings_Repeat := by
  refine told_flat (enters_of Go.Proofs.Tryz.func72 (by kernel_rfl) (by kernel_rfl)) (fun _ _ _ _ _ _ => trivial) (fun w M0 W0 us x γ hl hW ha r hr => ?_)
  obtain ⟨s, c, q⟩ := x
  obtain ⟨u1, _, rfl, ⟨c1, h1, h1'⟩, u2, _, rfl, ⟨c2, h2, h2'⟩, rfl⟩ := ha
  cases h1'; cases h2'; subst h1; subst h2
  unfold S.strings_Repeat at hr
  split at hr
  case isFalse => cases hr
  rename_i hc
  obtain ⟨g0, g1, g2⟩ := hc
  dsimp only at g0 g1 g2 hr
  cases hr
  obtain ⟨n, rfl⟩ : ∃ n : Nat, c = (n : Int) := ⟨c.toNat, (Int.toNat_of_nonneg g0).symm⟩
  have hm : s.size * n ≤ 1000000 * 1000000 := Nat.mul_le_mul g2 (by omega)
  refine (Go.Proofs.Tryz.strings_Repeat s n w (by omega) (by omega)).mono ?_
  rintro e w' ⟨rfl, hb⟩
  exact ⟨[_], rfl, hb, fun M' => ⟨[_], rfl, fun _ => rfl, rfl⟩⟩

def ct_slices_Reverse__string_string : Ct := ⟨[PK.mu Kd.str], true, [], S.slices_Reverse__string_string⟩
theorem v_slices_Reverse__string_string : Valid Go.Proofs.Tryz.prog gl 112 ct_slices_Reverse__string_string := by
  refine Valid.less (ps := [PK.mu Kd.str]) (tup := true) (rs := []) (g := P.slices_Reverse__string_string) (fun k => valid (fx := ⟨⟨Go.Proofs.Tryz.prog, td, [], [], []⟩, k, [(1, [(2, Sp.dat false (Kd.int IntKind.i64)), (3, Sp.dat false (Kd.int IntKind.i64)), (0, Sp.own (0) false Kd.str)])]⟩) (fn := Go.Proofs.Tryz.f112) (c := Go.Proofs.Tryz.f112.body.getD .skip) mixed tdOk (ctsNil _ _ _ _ _) Go.Proofs.Tryz.func112 (by kernel_rfl) (by kernel_rfl) (fun x => ?_)) S.slices_Reverse__string_string_ok
  kernel_rfl
def ct_i_nat_text : Ct := ⟨[PK.bo (Kd.sl (Kd.int IntKind.u32))], false, [(false, [RC.ro Kd.str])], S.i_nat_text⟩
theorem v_i_nat_text (hP : InP gl) : Valid Go.Proofs.Tryz.prog gl 71 ct_i_nat_text := by
  refine Valid.less (ps := [PK.bo (Kd.sl (Kd.int IntKind.u32))]) (tup := false) (rs := [(false, [RC.ro Kd.str])]) (g := P.i_nat_text) (fun k => valid (fx := ⟨⟨Go.Proofs.Tryz.prog, td, [(111, ct_strconv_FormatUint), (113, ct_strings_Join), (72, ct_strings_Repeat), (112, ct_slices_Reverse__string_string), (110, ct_i_nat_divSmall)], [], []⟩, k, [(4, [(0, Sp.dat true (Kd.sl (Kd.int IntKind.u32))), (3, Sp.own (80) true Kd.str)])]⟩) (fn := Go.Proofs.Tryz.f71) (c := Go.Proofs.Tryz.f71.body.getD .skip) mixed tdOk (ctsCons (v_strconv_FormatUint hP) (ctsCons v_strings_Join (ctsCons v_strings_Repeat (ctsCons v_slices_Reverse__string_string (ctsCons v_i_nat_divSmall (ctsNil _ _ _ _ _)))))) Go.Proofs.Tryz.func71 (by kernel_rfl) (by kernel_rfl) (fun x => ?_)) S.i_nat_text_ok
  kernel_rfl
def ct_i_rat_text : Ct := ⟨[PK.bo (Kd.st (Kd.pair Kd.bool (Kd.pair (Kd.sl (Kd.int IntKind.u32)) (Kd.sl (Kd.int IntKind.u32)))))], true, [(false, [RC.ro Kd.str]), (false, [RC.ro Kd.bool])], S.i_rat_text⟩
theorem v_i_rat_text (hP : InP gl) : Valid Go.Proofs.Tryz.prog gl 96 ct_i_rat_text := by
  refine Valid.less (ps := [PK.bo (Kd.st (Kd.pair Kd.bool (Kd.pair (Kd.sl (Kd.int IntKind.u32)) (Kd.sl (Kd.int IntKind.u32)))))]) (tup := true) (rs := [(false, [RC.ro Kd.str]), (false, [RC.ro Kd.bool])]) (g := P.i_rat_text) (fun k => valid (fx := ⟨⟨Go.Proofs.Tryz.prog, td, [(71, ct_i_nat_text)], [], []⟩, k, []⟩) (fn := Go.Proofs.Tryz.f96) (c := Go.Proofs.Tryz.f96.body.getD .skip) mixed tdOk (ctsCons (v_i_nat_text hP) (ctsNil _ _ _ _ _)) Go.Proofs.Tryz.func96 (by kernel_rfl) (by kernel_rfl) (fun x => ?_)) S.i_rat_text_ok
  kernel_rfl
def ct_i_told : Ct := ⟨[PK.bo (Kd.st (Kd.pair Kd.bool (Kd.pair (Kd.sl (Kd.int IntKind.u32)) (Kd.sl (Kd.int IntKind.u32)))))], true, [(false, [RC.ro Kd.str]), (false, [RC.ro Kd.bool])], S.i_told⟩
theorem v_i_told (hP : InP gl) : Valid Go.Proofs.Tryz.prog gl 45 ct_i_told := by
  refine Valid.less (ps := [PK.bo (Kd.st (Kd.pair Kd.bool (Kd.pair (Kd.sl (Kd.int IntKind.u32)) (Kd.sl (Kd.int IntKind.u32)))))]) (tup := true) (rs := [(false, [RC.ro Kd.str]), (false, [RC.ro Kd.bool])]) (g := P.i_told) (fun k => valid (fx := ⟨⟨Go.Proofs.Tryz.prog, td, [(96, ct_i_rat_text)], [], []⟩, k, []⟩) (fn := Go.Proofs.Tryz.f45) (c := Go.Proofs.Tryz.f45.body.getD .skip) mixed tdOk (ctsCons (v_i_rat_text hP) (ctsNil _ _ _ _ _)) Go.Proofs.Tryz.func45 (by kernel_rfl) (by kernel_rfl) (fun x => ?_)) S.i_told_ok
  kernel_rfl
def ct_strings_Cut : Ct := ⟨[PK.ro Kd.str, PK.ro Kd.str], true, [(false, [RC.ro Kd.str]), (false, [RC.ro Kd.str]), (false, [RC.ro Kd.bool])], S.strings_Cut⟩
theorem v_strings_Cut (hM : InM gl) : Valid Go.Proofs.Tryz.prog gl 91 ct_strings_Cut := by
  refine told_flat (enters_of Go.Proofs.Tryz.func91 (by kernel_rfl) (by kernel_rfl)) (fun _ _ _ _ _ _ => trivial) (fun w M0 W0 us x γ hl hW ha r hr => ?_)
  obtain ⟨s, b, q⟩ := x
  obtain ⟨u1, _, rfl, ⟨c1, h1, h1'⟩, u2, _, rfl, ⟨c2, h2, h2'⟩, rfl⟩ := ha
  cases h1'; cases h2'; subst h1; subst h2
  unfold S.strings_Cut at hr
  split at hr
  case isFalse => cases hr
  rename_i hc
  cases hr
  obtain ⟨m, hm⟩ := hM
  refine (Go.Proofs.Tryz.strings_Cut s b m w hc (laid_cell hl hm)).mono ?_
  rintro e w' ⟨rfl, n, rfl⟩
  exact ⟨[_, _, _], rfl, ⟨rfl, rfl, rfl, Nat.le_refl _, fun _ _ => rfl⟩, fun M' => ⟨[_], [_, _], rfl, fun _ => rfl, rfl, [_], [_], rfl, fun _ => rfl, rfl, [_], rfl, fun _ => rfl, rfl⟩⟩

def ct_strings_CutPrefix : Ct := ⟨[PK.ro Kd.str, PK.ro Kd.str], true, [(false, [RC.ro Kd.str]), (false, [RC.ro Kd.bool])], S.strings_CutPrefix⟩
theorem v_strings_CutPrefix : Valid Go.Proofs.Tryz.prog gl 92 ct_strings_CutPrefix := by
  refine told_flat (enters_of Go.Proofs.Tryz.func92 (by kernel_rfl) (by kernel_rfl)) (fun _ _ _ _ _ _ => trivial) (fun w M0 W0 us x γ hl hW ha r hr => ?_)
  obtain ⟨s, b, q⟩ := x
  obtain ⟨u1, _, rfl, ⟨c1, h1, h1'⟩, u2, _, rfl, ⟨c2, h2, h2'⟩, rfl⟩ := ha
  cases h1'; cases h2'; subst h1; subst h2
  cases hr
  refine (Go.Proofs.Tryz.strings_CutPrefix s b w).mono ?_
  rintro e w' ⟨rfl, rfl⟩
  exact ⟨[_, _], rfl, Below.refl _ _, fun M' => ⟨[_], [_], rfl, fun _ => rfl, rfl, [_], rfl, fun _ => rfl, rfl⟩⟩

def ct_strconv_ParseUint : Ct := ⟨[PK.ro Kd.str, PK.ro (Kd.int IntKind.i64), PK.ro (Kd.int IntKind.i64)], true, [(false, [RC.ro (Kd.int IntKind.u64)]), (false, [RC.ro Kd.er])], S.strconv_ParseUint⟩
theorem v_strconv_ParseUint (hR : InR gl) (hS : InS gl) : Valid Go.Proofs.Tryz.prog gl 132 ct_strconv_ParseUint := by
  refine told_flat (enters_of Go.Proofs.Tryz.func132 (by kernel_rfl) (by kernel_rfl)) (fun _ _ _ _ _ _ => trivial) (fun w M0 W0 us x γ hl hW ha r hr => ?_)
  obtain ⟨s, b, z, q⟩ := x
  obtain ⟨u1, _, rfl, ⟨c1, h1, h1'⟩, u2, _, rfl, ⟨c2, h2, h2'⟩, u3, _, rfl, ⟨c3, h3, h3'⟩, rfl⟩ := ha
  cases h1'; cases h2'; cases h3'; subst h1; subst h2; subst h3
  unfold S.strconv_ParseUint at hr
  split at hr
  case isFalse => cases hr
  rename_i hc
  obtain ⟨hb, hz, hs⟩ := hc
  dsimp only at hb hz hs hr
  subst hb; subst hz
  obtain ⟨t1, p1, hS⟩ := hS
  obtain ⟨t2, p2, hR⟩ := hR
  have v1 : w.var? Go.Proofs.Tryz.prog "strconv.ErrSyntax" = some #[.iface t1 p1] := laid_var hl hS (by kernel_rfl)
  have v2 : w.var? Go.Proofs.Tryz.prog "strconv.ErrRange" = some #[.iface t2 p2] := laid_var hl hR (by kernel_rfl)
  split at hr
  · rename_i v hv
    cases hr
    refine (Go.Proofs.Tryz.strconv_ParseUint_10_at64_ok s (by omega) v hv w).mono ?_
    rintro e w' ⟨rfl, hw⟩
    refine ⟨[_, _], rfl, ?_, fun M' => ⟨[_], [_], rfl, fun _ => rfl, rfl, [_], rfl, fun _ => rfl, _, rfl, rfl, rfl⟩⟩
    rcases hw with rfl | ⟨t, rfl⟩
    · exact Below.refl _ _
    · exact ⟨rfl, rfl, rfl, by rw [Lib.bytesWorld_size]; omega, fun k hk => Lib.bytesWorld_at_old _ _ _ k (by omega)⟩
  · rename_i hv
    cases hr
    refine (Go.Proofs.Tryz.strconv_ParseUint_10_at64_syntax_var s hs hv t1 p1 w v1).mono ?_
    rintro e w' ⟨N, rfl, _, _, hbl⟩
    exact ⟨[_, _], rfl, hbl, fun M' => ⟨[_], [_], rfl, fun _ => rfl, rfl, [_], rfl, fun _ => rfl, _, rfl, rfl, _, _, rfl⟩⟩
  · rename_i hv
    cases hr
    refine (Go.Proofs.Tryz.strconv_ParseUint_10_at64_range_var s hs hv t2 p2 w v2).mono ?_
    rintro e w' ⟨N, rfl, _, _, hbl⟩
    exact ⟨[_, _], rfl, hbl, fun M' => ⟨[_], [_], rfl, fun _ => rfl, rfl, [_], rfl, fun _ => rfl, _, rfl, rfl, _, _, rfl⟩⟩

def ct_i_readNat : Ct := ⟨[PK.ro Kd.str], true, [(false, [RC.ro (Kd.sl (Kd.int IntKind.u32))]), (false, [RC.ro Kd.bool])], S.i_readNat⟩
theorem v_i_readNat (hR : InR gl) (hS : InS gl) : Valid Go.Proofs.Tryz.prog gl 93 ct_i_readNat := by
  refine Valid.less (ps := [PK.ro Kd.str]) (tup := true) (rs := [(false, [RC.ro (Kd.sl (Kd.int IntKind.u32))]), (false, [RC.ro Kd.bool])]) (g := P.i_readNat) (fun k => valid (fx := ⟨⟨Go.Proofs.Tryz.prog, td, [(132, ct_strconv_ParseUint), (70, ct_i_natOf), (98, ct_i_nat_add), (101, ct_i_nat_mul)], [], []⟩, k, [(17, [(59, Sp.dat false (Kd.int IntKind.i64)), (58, Sp.dat false (Kd.int IntKind.i64)), (9, Sp.dat false (Kd.int IntKind.u64)),   (4, Sp.dat false (Kd.sl (Kd.int IntKind.u32))), (7, Sp.dat false (Kd.int IntKind.u64)), (0, Sp.dat false Kd.str),   (6, Sp.dat false (Kd.int IntKind.i64))]), (10, [(0, Sp.dat false Kd.str), (4, Sp.dat false (Kd.sl (Kd.int IntKind.u32)))]), (5, [(30, Sp.dat false (Kd.int IntKind.i64)), (29, Sp.dat false (Kd.int IntKind.i64)), (0, Sp.dat false Kd.str),   (4, Sp.dat false (Kd.sl (Kd.int IntKind.u32)))])]⟩) (fn := Go.Proofs.Tryz.f93) (c := Go.Proofs.Tryz.f93.body.getD .skip) mixed tdOk (ctsCons (v_strconv_ParseUint hR hS) (ctsCons v_i_natOf (ctsCons v_i_nat_add (ctsCons v_i_nat_mul (ctsNil _ _ _ _ _))))) Go.Proofs.Tryz.func93 (by kernel_rfl) (by kernel_rfl) (fun x => ?_)) S.i_readNat_ok
  kernel_rfl
def ct_i_readRat : Ct := ⟨[PK.ro Kd.str], true, [(true, [RC.ro (Kd.st (Kd.pair Kd.bool (Kd.pair (Kd.sl (Kd.int IntKind.u32)) (Kd.sl (Kd.int IntKind.u32)))))]), (false, [RC.ro Kd.bool])], S.i_readRat⟩
theorem v_i_readRat (hM : InM gl) (hR : InR gl) (hS : InS gl) : Valid Go.Proofs.Tryz.prog gl 44 ct_i_readRat := by
  refine Valid.less (ps := [PK.ro Kd.str]) (tup := true) (rs := [(true, [RC.ro (Kd.st (Kd.pair Kd.bool (Kd.pair (Kd.sl (Kd.int IntKind.u32)) (Kd.sl (Kd.int IntKind.u32)))))]), (false, [RC.ro Kd.bool])]) (g := P.i_readRat) (fun k => valid (fx := ⟨⟨Go.Proofs.Tryz.prog, td, [(91, ct_strings_Cut), (92, ct_strings_CutPrefix), (70, ct_i_natOf), (94, ct_i_nat_cmp), (95, ct_i_nat_gcd), (93, ct_i_readNat)], [], []⟩, k, []⟩) (fn := Go.Proofs.Tryz.f44) (c := Go.Proofs.Tryz.f44.body.getD .skip) mixed tdOk (ctsCons (v_strings_Cut hM) (ctsCons v_strings_CutPrefix (ctsCons v_i_natOf (ctsCons v_i_nat_cmp (ctsCons v_i_nat_gcd (ctsCons (v_i_readNat hR hS) (ctsNil _ _ _ _ _))))))) Go.Proofs.Tryz.func44 (by kernel_rfl) (by kernel_rfl) (fun x => ?_)) S.i_readRat_ok
  kernel_rfl
def ct_i_two : Ct := ⟨[PK.ro Kd.str, PK.ro Kd.str], true, [(true, [RC.ro (Kd.st (Kd.pair Kd.bool (Kd.pair (Kd.sl (Kd.int IntKind.u32)) (Kd.sl (Kd.int IntKind.u32)))))]),   (true, [RC.ro (Kd.st (Kd.pair Kd.bool (Kd.pair (Kd.sl (Kd.int IntKind.u32)) (Kd.sl (Kd.int IntKind.u32)))))]), (false, [RC.ro Kd.bool])], S.i_two⟩
theorem v_i_two (hM : InM gl) (hR : InR gl) (hS : InS gl) : Valid Go.Proofs.Tryz.prog gl 100 ct_i_two := by
  refine Valid.less (ps := [PK.ro Kd.str, PK.ro Kd.str]) (tup := true) (rs := [(true, [RC.ro (Kd.st (Kd.pair Kd.bool (Kd.pair (Kd.sl (Kd.int IntKind.u32)) (Kd.sl (Kd.int IntKind.u32)))))]),   (true, [RC.ro (Kd.st (Kd.pair Kd.bool (Kd.pair (Kd.sl (Kd.int IntKind.u32)) (Kd.sl (Kd.int IntKind.u32)))))]), (false, [RC.ro Kd.bool])]) (g := P.i_two) (fun k => valid (fx := ⟨⟨Go.Proofs.Tryz.prog, td, [(44, ct_i_readRat)], [], []⟩, k, []⟩) (fn := Go.Proofs.Tryz.f100) (c := Go.Proofs.Tryz.f100.body.getD .skip) mixed tdOk (ctsCons (v_i_readRat hM hR hS) (ctsNil _ _ _ _ _)) Go.Proofs.Tryz.func100 (by kernel_rfl) (by kernel_rfl) (fun x => ?_)) S.i_two_ok
  kernel_rfl
def ct_i_withTwosub : Ct := ⟨[PK.ro Kd.str, PK.ro Kd.str, PK.fn (63)], true, [(false, [RC.ro Kd.str]), (false, [RC.ro Kd.bool])], S.i_withTwosub⟩
theorem v_i_withTwosub (hM : InM gl) (hP : InP gl) (hR : InR gl) (hS : InS gl) : Valid Go.Proofs.Tryz.prog gl 49 ct_i_withTwosub := by
  refine Valid.less (ps := [PK.ro Kd.str, PK.ro Kd.str, PK.fn (63)]) (tup := true) (rs := [(false, [RC.ro Kd.str]), (false, [RC.ro Kd.bool])]) (g := P.i_withTwosub) (fun k => valid (fx := ⟨⟨Go.Proofs.Tryz.prog, td, [(45, ct_i_told), (63, ct_i_rat_sub), (100, ct_i_two)], [], []⟩, k, []⟩) (fn := Go.Proofs.Tryz.f49) (c := Go.Proofs.Tryz.f49.body.getD .skip) mixed tdOk (ctsCons (v_i_told hP) (ctsCons v_i_rat_sub (ctsCons (v_i_two hM hR hS) (ctsNil _ _ _ _ _)))) Go.Proofs.Tryz.func49 (by kernel_rfl) (by kernel_rfl) (fun x => ?_)) S.i_withTwosub_ok
  kernel_rfl
def ct_i_LessFraction : Ct := ⟨[PK.ro Kd.str, PK.ro Kd.str], true, [(false, [RC.ro Kd.str]), (false, [RC.ro Kd.bool])], S.i_LessFraction⟩
theorem v_i_LessFraction (hM : InM gl) (hP : InP gl) (hR : InR gl) (hS : InS gl) : Valid Go.Proofs.Tryz.prog gl 29 ct_i_LessFraction := by
  refine Valid.less (ps := [PK.ro Kd.str, PK.ro Kd.str]) (tup := true) (rs := [(false, [RC.ro Kd.str]), (false, [RC.ro Kd.bool])]) (g := P.i_LessFraction) (fun k => valid (fx := ⟨⟨Go.Proofs.Tryz.prog, td, [(63, ct_i_rat_sub), (49, ct_i_withTwosub)], [], []⟩, k, []⟩) (fn := Go.Proofs.Tryz.f29) (c := Go.Proofs.Tryz.f29.body.getD .skip) mixed tdOk (ctsCons v_i_rat_sub (ctsCons (v_i_withTwosub hM hP hR hS) (ctsNil _ _ _ _ _))) Go.Proofs.Tryz.func29 (by kernel_rfl) (by kernel_rfl) (fun x => ?_)) S.i_LessFraction_ok
  kernel_rfl
def ct_s_l01Dec : Ct := ⟨[PK.ro (Kd.int IntKind.i64)], false, [(false, [RC.ro Kd.str])], S.s_l01Dec⟩
theorem v_s_l01Dec : Valid Go.Proofs.Tryz.prog gl 107 ct_s_l01Dec := by
  refine Valid.less (ps := [PK.ro (Kd.int IntKind.i64)]) (tup := false) (rs := [(false, [RC.ro Kd.str])]) (g := P.s_l01Dec) (fun k => valid (fx := ⟨⟨Go.Proofs.Tryz.prog, td, [], [], []⟩, k, [(3, [(3, Sp.dat false (Kd.sl (Kd.int IntKind.u8))), (4, Sp.dat false (Kd.int IntKind.i64)), (0, Sp.dat false (Kd.int IntKind.i64))])]⟩) (fn := Go.Proofs.Tryz.f107) (c := Go.Proofs.Tryz.f107.body.getD .skip) mixed tdOk (ctsNil _ _ _ _ _) Go.Proofs.Tryz.func107 (by kernel_rfl) (by kernel_rfl) (fun x => ?_)) S.s_l01Dec_ok
  kernel_rfl
def ct_s_l01NatText : Ct := ⟨[PK.bo (Kd.sl (Kd.int IntKind.i64))], false, [(false, [RC.ro Kd.str])], S.s_l01NatText⟩
theorem v_s_l01NatText : Valid Go.Proofs.Tryz.prog gl 67 ct_s_l01NatText := by
  refine Valid.less (ps := [PK.bo (Kd.sl (Kd.int IntKind.i64))]) (tup := false) (rs := [(false, [RC.ro Kd.str])]) (g := P.s_l01NatText) (fun k => valid (fx := ⟨⟨Go.Proofs.Tryz.prog, td, [(107, ct_s_l01Dec)], [], []⟩, k, [(5, [(4, Sp.dat false (Kd.int IntKind.i64)), (0, Sp.dat true (Kd.sl (Kd.int IntKind.i64))), (3, Sp.dat false Kd.str)])]⟩) (fn := Go.Proofs.Tryz.f67) (c := Go.Proofs.Tryz.f67.body.getD .skip) mixed tdOk (ctsCons v_s_l01Dec (ctsNil _ _ _ _ _)) Go.Proofs.Tryz.func67 (by kernel_rfl) (by kernel_rfl) (fun x => ?_)) S.s_l01NatText_ok
  kernel_rfl
def ct_s_l01Fits : Ct := ⟨[PK.bo (Kd.st (Kd.pair Kd.bool (Kd.pair (Kd.sl (Kd.int IntKind.i64)) (Kd.sl (Kd.int IntKind.i64)))))], false, [(false, [RC.ro Kd.bool])], S.s_l01Fits⟩
theorem v_s_l01Fits : Valid Go.Proofs.Tryz.prog gl 57 ct_s_l01Fits := by
  refine Valid.less (ps := [PK.bo (Kd.st (Kd.pair Kd.bool (Kd.pair (Kd.sl (Kd.int IntKind.i64)) (Kd.sl (Kd.int IntKind.i64)))))]) (tup := false) (rs := [(false, [RC.ro Kd.bool])]) (g := P.s_l01Fits) (fun k => valid (fx := ⟨⟨Go.Proofs.Tryz.prog, td, [(67, ct_s_l01NatText)], [], []⟩, k, []⟩) (fn := Go.Proofs.Tryz.f57) (c := Go.Proofs.Tryz.f57.body.getD .skip) mixed tdOk (ctsCons v_s_l01NatText (ctsNil _ _ _ _ _)) Go.Proofs.Tryz.func57 (by kernel_rfl) (by kernel_rfl) (fun x => ?_)) S.s_l01Fits_ok
  kernel_rfl
def ct_s_l01Cmp : Ct := ⟨[PK.bo (Kd.sl (Kd.int IntKind.i64)), PK.bo (Kd.sl (Kd.int IntKind.i64))], false, [(false, [RC.ro (Kd.int IntKind.i64)])], S.s_l01Cmp⟩
theorem v_s_l01Cmp : Valid Go.Proofs.Tryz.prog gl 86 ct_s_l01Cmp := by
  refine Valid.less (ps := [PK.bo (Kd.sl (Kd.int IntKind.i64)), PK.bo (Kd.sl (Kd.int IntKind.i64))]) (tup := false) (rs := [(false, [RC.ro (Kd.int IntKind.i64)])]) (g := P.s_l01Cmp) (fun k => valid (fx := ⟨⟨Go.Proofs.Tryz.prog, td, [], [], []⟩, k, [(6, [(5, Sp.dat false (Kd.int IntKind.i64)), (0, Sp.dat true (Kd.sl (Kd.int IntKind.i64))),   (1, Sp.dat true (Kd.sl (Kd.int IntKind.i64)))])]⟩) (fn := Go.Proofs.Tryz.f86) (c := Go.Proofs.Tryz.f86.body.getD .skip) mixed tdOk (ctsNil _ _ _ _ _) Go.Proofs.Tryz.func86 (by kernel_rfl) (by kernel_rfl) (fun x => ?_)) S.s_l01Cmp_ok
  kernel_rfl
def ct_s_l01Show : Ct := ⟨[PK.bo (Kd.st (Kd.pair Kd.bool (Kd.pair (Kd.sl (Kd.int IntKind.i64)) (Kd.sl (Kd.int IntKind.i64)))))], false, [(false, [RC.ro Kd.str])], S.s_l01Show⟩
theorem v_s_l01Show : Valid Go.Proofs.Tryz.prog gl 88 ct_s_l01Show := by
  refine Valid.less (ps := [PK.bo (Kd.st (Kd.pair Kd.bool (Kd.pair (Kd.sl (Kd.int IntKind.i64)) (Kd.sl (Kd.int IntKind.i64)))))]) (tup := false) (rs := [(false, [RC.ro Kd.str])]) (g := P.s_l01Show) (fun k => valid (fx := ⟨⟨Go.Proofs.Tryz.prog, td, [(86, ct_s_l01Cmp), (67, ct_s_l01NatText)], [], []⟩, k, []⟩) (fn := Go.Proofs.Tryz.f88) (c := Go.Proofs.Tryz.f88.body.getD .skip) mixed tdOk (ctsCons v_s_l01Cmp (ctsCons v_s_l01NatText (ctsNil _ _ _ _ _))) Go.Proofs.Tryz.func88 (by kernel_rfl) (by kernel_rfl) (fun x => ?_)) S.s_l01Show_ok
  kernel_rfl
def ct_s_l01Give : Ct := ⟨[PK.bo (Kd.st (Kd.pair Kd.bool (Kd.pair (Kd.sl (Kd.int IntKind.i64)) (Kd.sl (Kd.int IntKind.i64)))))], true, [(false, [RC.ro Kd.str]), (false, [RC.ro Kd.bool])], S.s_l01Give⟩
theorem v_s_l01Give : Valid Go.Proofs.Tryz.prog gl 42 ct_s_l01Give := by
  refine Valid.less (ps := [PK.bo (Kd.st (Kd.pair Kd.bool (Kd.pair (Kd.sl (Kd.int IntKind.i64)) (Kd.sl (Kd.int IntKind.i64)))))]) (tup := true) (rs := [(false, [RC.ro Kd.str]), (false, [RC.ro Kd.bool])]) (g := P.s_l01Give) (fun k => valid (fx := ⟨⟨Go.Proofs.Tryz.prog, td, [(57, ct_s_l01Fits), (88, ct_s_l01Show)], [], []⟩, k, []⟩) (fn := Go.Proofs.Tryz.f42) (c := Go.Proofs.Tryz.f42.body.getD .skip) mixed tdOk (ctsCons v_s_l01Fits (ctsCons v_s_l01Show (ctsNil _ _ _ _ _))) Go.Proofs.Tryz.func42 (by kernel_rfl) (by kernel_rfl) (fun x => ?_)) S.s_l01Give_ok
  kernel_rfl
def ct_s_l01Opposite : Ct := ⟨[PK.ro (Kd.st (Kd.pair Kd.bool (Kd.pair (Kd.sl (Kd.int IntKind.i64)) (Kd.sl (Kd.int IntKind.i64)))))], false, [(true, [RC.ro (Kd.st (Kd.pair Kd.bool (Kd.pair (Kd.sl (Kd.int IntKind.i64)) (Kd.sl (Kd.int IntKind.i64)))))])], S.s_l01Opposite⟩
theorem v_s_l01Opposite : Valid Go.Proofs.Tryz.prog gl 104 ct_s_l01Opposite := by
  refine Valid.less (ps := [PK.ro (Kd.st (Kd.pair Kd.bool (Kd.pair (Kd.sl (Kd.int IntKind.i64)) (Kd.sl (Kd.int IntKind.i64)))))]) (tup := false) (rs := [(true, [RC.ro (Kd.st (Kd.pair Kd.bool (Kd.pair (Kd.sl (Kd.int IntKind.i64)) (Kd.sl (Kd.int IntKind.i64)))))])]) (g := P.s_l01Opposite) (fun k => valid (fx := ⟨⟨Go.Proofs.Tryz.prog, td, [], [], []⟩, k, []⟩) (fn := Go.Proofs.Tryz.f104) (c := Go.Proofs.Tryz.f104.body.getD .skip) mixed tdOk (ctsNil _ _ _ _ _) Go.Proofs.Tryz.func104 (by kernel_rfl) (by kernel_rfl) (fun x => ?_)) S.s_l01Opposite_ok
  kernel_rfl
def ct_s_l01Trim : Ct := ⟨[PK.ro (Kd.sl (Kd.int IntKind.i64))], false, [(false, [RC.ro (Kd.sl (Kd.int IntKind.i64))])], S.s_l01Trim⟩
theorem v_s_l01Trim : Valid Go.Proofs.Tryz.prog gl 123 ct_s_l01Trim := by
  refine Valid.less (ps := [PK.ro (Kd.sl (Kd.int IntKind.i64))]) (tup := false) (rs := [(false, [RC.ro (Kd.sl (Kd.int IntKind.i64))])]) (g := P.s_l01Trim) (fun k => valid (fx := ⟨⟨Go.Proofs.Tryz.prog, td, [], [], []⟩, k, [(1, [(0, Sp.dat false (Kd.sl (Kd.int IntKind.i64)))])]⟩) (fn := Go.Proofs.Tryz.f123) (c := Go.Proofs.Tryz.f123.body.getD .skip) mixed tdOk (ctsNil _ _ _ _ _) Go.Proofs.Tryz.func123 (by kernel_rfl) (by kernel_rfl) (fun x => ?_)) S.s_l01Trim_ok
  kernel_rfl
def ct_s_l01NatMul : Ct := ⟨[PK.bo (Kd.sl (Kd.int IntKind.i64)), PK.bo (Kd.sl (Kd.int IntKind.i64))], false, [(false, [RC.ro (Kd.sl (Kd.int IntKind.i64))])], S.s_l01NatMul⟩
theorem v_s_l01NatMul : Valid Go.Proofs.Tryz.prog gl 99 ct_s_l01NatMul := by
  refine Valid.less (ps := [PK.bo (Kd.sl (Kd.int IntKind.i64)), PK.bo (Kd.sl (Kd.int IntKind.i64))]) (tup := false) (rs := [(false, [RC.ro (Kd.sl (Kd.int IntKind.i64))])]) (g := P.s_l01NatMul) (fun k => valid (fx := ⟨⟨Go.Proofs.Tryz.prog, td, [(123, ct_s_l01Trim)], [], []⟩, k, [(7, [(23, Sp.dat false (Kd.int IntKind.i64)), (22, Sp.dat false (Kd.int IntKind.i64)), (5, Sp.own (120) true (Kd.int IntKind.i64)),   (6, Sp.dat false (Kd.int IntKind.i64)), (0, Sp.dat true (Kd.sl (Kd.int IntKind.i64))),   (1, Sp.dat true (Kd.sl (Kd.int IntKind.i64))), (7, Sp.dat false (Kd.int IntKind.i64)), (18, Sp.dat false (Kd.int IntKind.i64)),   (17, Sp.dat false (Kd.int IntKind.i64))]), (3, [(18, Sp.dat false (Kd.int IntKind.i64)), (17, Sp.dat false (Kd.int IntKind.i64)), (1, Sp.dat true (Kd.sl (Kd.int IntKind.i64))),   (5, Sp.own (120) true (Kd.int IntKind.i64)), (0, Sp.dat true (Kd.sl (Kd.int IntKind.i64)))])]⟩) (fn := Go.Proofs.Tryz.f99) (c := Go.Proofs.Tryz.f99.body.getD .skip) mixed tdOk (ctsCons v_s_l01Trim (ctsNil _ _ _ _ _)) Go.Proofs.Tryz.func99 (by kernel_rfl) (by kernel_rfl) (fun x => ?_)) S.s_l01NatMul_ok
  kernel_rfl
def ct_s_l01Digit : Ct := ⟨[PK.bo (Kd.sl (Kd.int IntKind.i64)), PK.ro (Kd.int IntKind.i64)], false, [(false, [RC.ro (Kd.int IntKind.i64)])], S.s_l01Digit⟩
theorem v_s_l01Digit : Valid Go.Proofs.Tryz.prog gl 129 ct_s_l01Digit := by
  refine Valid.less (ps := [PK.bo (Kd.sl (Kd.int IntKind.i64)), PK.ro (Kd.int IntKind.i64)]) (tup := false) (rs := [(false, [RC.ro (Kd.int IntKind.i64)])]) (g := P.s_l01Digit) (fun k => valid (fx := ⟨⟨Go.Proofs.Tryz.prog, td, [], [], []⟩, k, []⟩) (fn := Go.Proofs.Tryz.f129) (c := Go.Proofs.Tryz.f129.body.getD .skip) mixed tdOk (ctsNil _ _ _ _ _) Go.Proofs.Tryz.func129 (by kernel_rfl) (by kernel_rfl) (fun x => ?_)) S.s_l01Digit_ok
  kernel_rfl
def ct_s_l01NatAdd : Ct := ⟨[PK.bo (Kd.sl (Kd.int IntKind.i64)), PK.bo (Kd.sl (Kd.int IntKind.i64))], false, [(false, [RC.ro (Kd.sl (Kd.int IntKind.i64))])], S.s_l01NatAdd⟩
theorem v_s_l01NatAdd : Valid Go.Proofs.Tryz.prog gl 90 ct_s_l01NatAdd := by
  refine Valid.less (ps := [PK.bo (Kd.sl (Kd.int IntKind.i64)), PK.bo (Kd.sl (Kd.int IntKind.i64))]) (tup := false) (rs := [(false, [RC.ro (Kd.sl (Kd.int IntKind.i64))])]) (g := P.s_l01NatAdd) (fun k => valid (fx := ⟨⟨Go.Proofs.Tryz.prog, td, [(129, ct_s_l01Digit)], [], []⟩, k, [(4, [(7, Sp.dat false (Kd.int IntKind.i64)), (0, Sp.dat true (Kd.sl (Kd.int IntKind.i64))),   (1, Sp.dat true (Kd.sl (Kd.int IntKind.i64))), (6, Sp.dat false (Kd.int IntKind.i64)),   (5, Sp.own (72) true (Kd.int IntKind.i64))])]⟩) (fn := Go.Proofs.Tryz.f90) (c := Go.Proofs.Tryz.f90.body.getD .skip) mixed tdOk (ctsCons v_s_l01Digit (ctsNil _ _ _ _ _)) Go.Proofs.Tryz.func90 (by kernel_rfl) (by kernel_rfl) (fun x => ?_)) S.s_l01NatAdd_ok
  kernel_rfl
def ct_s_l01NatLess : Ct := ⟨[PK.bo (Kd.sl (Kd.int IntKind.i64)), PK.bo (Kd.sl (Kd.int IntKind.i64))], false, [(false, [RC.ro (Kd.sl (Kd.int IntKind.i64))])], S.s_l01NatLess⟩
theorem v_s_l01NatLess : Valid Go.Proofs.Tryz.prog gl 102 ct_s_l01NatLess := by
  refine Valid.less (ps := [PK.bo (Kd.sl (Kd.int IntKind.i64)), PK.bo (Kd.sl (Kd.int IntKind.i64))]) (tup := false) (rs := [(false, [RC.ro (Kd.sl (Kd.int IntKind.i64))])]) (g := P.s_l01NatLess) (fun k => valid (fx := ⟨⟨Go.Proofs.Tryz.prog, td, [(123, ct_s_l01Trim), (129, ct_s_l01Digit)], [], []⟩, k, [(4, [(12, Sp.dat false (Kd.int IntKind.i64)), (11, Sp.dat false (Kd.int IntKind.i64)), (0, Sp.dat true (Kd.sl (Kd.int IntKind.i64))),   (1, Sp.dat true (Kd.sl (Kd.int IntKind.i64))), (6, Sp.dat false (Kd.int IntKind.i64)),   (5, Sp.own (72) true (Kd.int IntKind.i64))])]⟩) (fn := Go.Proofs.Tryz.f102) (c := Go.Proofs.Tryz.f102.body.getD .skip) mixed tdOk (ctsCons v_s_l01Trim (ctsCons v_s_l01Digit (ctsNil _ _ _ _ _))) Go.Proofs.Tryz.func102 (by kernel_rfl) (by kernel_rfl) (fun x => ?_)) S.s_l01NatLess_ok
  kernel_rfl
def ct_s_l01Nat : Ct := ⟨[PK.ro (Kd.int IntKind.i64)], false, [(false, [RC.ro (Kd.sl (Kd.int IntKind.i64))])], S.s_l01Nat⟩
theorem v_s_l01Nat : Valid Go.Proofs.Tryz.prog gl 106 ct_s_l01Nat := by
  refine Valid.less (ps := [PK.ro (Kd.int IntKind.i64)]) (tup := false) (rs := [(false, [RC.ro (Kd.sl (Kd.int IntKind.i64))])]) (g := P.s_l01Nat) (fun k => valid (fx := ⟨⟨Go.Proofs.Tryz.prog, td, [], [], []⟩, k, [(2, [(0, Sp.dat false (Kd.int IntKind.i64)), (3, Sp.own (32) true (Kd.int IntKind.i64))])]⟩) (fn := Go.Proofs.Tryz.f106) (c := Go.Proofs.Tryz.f106.body.getD .skip) mixed tdOk (ctsNil _ _ _ _ _) Go.Proofs.Tryz.func106 (by kernel_rfl) (by kernel_rfl) (fun x => ?_)) S.s_l01Nat_ok
  kernel_rfl
def ct_s_l01Small : Ct := ⟨[PK.bo (Kd.sl (Kd.int IntKind.i64))], true, [(false, [RC.ro (Kd.int IntKind.i64)]), (false, [RC.ro Kd.bool])], S.s_l01Small⟩
theorem v_s_l01Small : Valid Go.Proofs.Tryz.prog gl 124 ct_s_l01Small := by
  refine Valid.less (ps := [PK.bo (Kd.sl (Kd.int IntKind.i64))]) (tup := true) (rs := [(false, [RC.ro (Kd.int IntKind.i64)]), (false, [RC.ro Kd.bool])]) (g := P.s_l01Small) (fun k => valid (fx := ⟨⟨Go.Proofs.Tryz.prog, td, [(129, ct_s_l01Digit)], [], []⟩, k, []⟩) (fn := Go.Proofs.Tryz.f124) (c := Go.Proofs.Tryz.f124.body.getD .skip) mixed tdOk (ctsCons v_s_l01Digit (ctsNil _ _ _ _ _)) Go.Proofs.Tryz.func124 (by kernel_rfl) (by kernel_rfl) (fun x => ?_)) S.s_l01Small_ok
  kernel_rfl
def ct_s_l01ShortMul : Ct := ⟨[PK.bo (Kd.sl (Kd.int IntKind.i64)), PK.ro (Kd.int IntKind.i64)], false, [(false, [RC.own (Kd.int IntKind.i64)])], S.s_l01ShortMul⟩
theorem v_s_l01ShortMul : Valid Go.Proofs.Tryz.prog gl 126 ct_s_l01ShortMul := by
  refine Valid.less (ps := [PK.bo (Kd.sl (Kd.int IntKind.i64)), PK.ro (Kd.int IntKind.i64)]) (tup := false) (rs := [(false, [RC.own (Kd.int IntKind.i64)])]) (g := P.s_l01ShortMul) (fun k => valid (fx := ⟨⟨Go.Proofs.Tryz.prog, td, [], [], []⟩, k, [(4, [(16, Sp.dat false (Kd.int IntKind.i64)), (15, Sp.dat false (Kd.int IntKind.i64)), (14, Sp.dat true (Kd.sl (Kd.int IntKind.i64))),   (1, Sp.dat false (Kd.int IntKind.i64)), (6, Sp.dat false (Kd.int IntKind.i64)), (5, Sp.own (104) true (Kd.int IntKind.i64))])]⟩) (fn := Go.Proofs.Tryz.f126) (c := Go.Proofs.Tryz.f126.body.getD .skip) mixed tdOk (ctsNil _ _ _ _ _) Go.Proofs.Tryz.func126 (by kernel_rfl) (by kernel_rfl) (fun x => ?_)) S.s_l01ShortMul_ok
  kernel_rfl
def ct_s_l01ShortDiv : Ct := ⟨[PK.bo (Kd.sl (Kd.int IntKind.i64)), PK.ro (Kd.int IntKind.i64)], true, [(false, [RC.ro (Kd.sl (Kd.int IntKind.i64))]), (false, [RC.ro (Kd.int IntKind.i64)])], S.s_l01ShortDiv⟩
theorem v_s_l01ShortDiv : Valid Go.Proofs.Tryz.prog gl 125 ct_s_l01ShortDiv := by
  refine Valid.less (ps := [PK.bo (Kd.sl (Kd.int IntKind.i64)), PK.ro (Kd.int IntKind.i64)]) (tup := true) (rs := [(false, [RC.ro (Kd.sl (Kd.int IntKind.i64))]), (false, [RC.ro (Kd.int IntKind.i64)])]) (g := P.s_l01ShortDiv) (fun k => valid (fx := ⟨⟨Go.Proofs.Tryz.prog, td, [(123, ct_s_l01Trim)], [], []⟩, k, [(4, [(8, Sp.dat false (Kd.int IntKind.i64)), (7, Sp.dat false (Kd.int IntKind.i64)), (0, Sp.dat true (Kd.sl (Kd.int IntKind.i64))),   (6, Sp.own (96) true (Kd.int IntKind.i64)), (1, Sp.dat false (Kd.int IntKind.i64))])]⟩) (fn := Go.Proofs.Tryz.f125) (c := Go.Proofs.Tryz.f125.body.getD .skip) mixed tdOk (ctsCons v_s_l01Trim (ctsNil _ _ _ _ _)) Go.Proofs.Tryz.func125 (by kernel_rfl) (by kernel_rfl) (fun x => ?_)) S.s_l01ShortDiv_ok
  kernel_rfl
def ct_s_l01TakeOff : Ct := ⟨[PK.mu (Kd.int IntKind.i64), PK.bo (Kd.sl (Kd.int IntKind.i64)), PK.ro (Kd.int IntKind.i64), PK.ro (Kd.int IntKind.i64)], false, [(false, [RC.ro Kd.bool])], S.s_l01TakeOff⟩
theorem v_s_l01TakeOff : Valid Go.Proofs.Tryz.prog gl 127 ct_s_l01TakeOff := by
  refine Valid.less (ps := [PK.mu (Kd.int IntKind.i64), PK.bo (Kd.sl (Kd.int IntKind.i64)), PK.ro (Kd.int IntKind.i64), PK.ro (Kd.int IntKind.i64)]) (tup := false) (rs := [(false, [RC.ro Kd.bool])]) (g := P.s_l01TakeOff) (fun k => valid (fx := ⟨⟨Go.Proofs.Tryz.prog, td, [], [], []⟩, k, [(3, [(15, Sp.dat false (Kd.int IntKind.i64)), (14, Sp.dat false (Kd.int IntKind.i64)), (13, Sp.dat true (Kd.sl (Kd.int IntKind.i64))),   (0, Sp.own (0) false (Kd.int IntKind.i64)), (2, Sp.dat false (Kd.int IntKind.i64)), (3, Sp.dat false (Kd.int IntKind.i64)),   (9, Sp.dat false (Kd.int IntKind.i64)), (1, Sp.dat true (Kd.sl (Kd.int IntKind.i64)))])]⟩) (fn := Go.Proofs.Tryz.f127) (c := Go.Proofs.Tryz.f127.body.getD .skip) mixed tdOk (ctsNil _ _ _ _ _) Go.Proofs.Tryz.func127 (by kernel_rfl) (by kernel_rfl) (fun x => ?_)) S.s_l01TakeOff_ok
  kernel_rfl
def ct_s_l01PutBack : Ct := ⟨[PK.mu (Kd.int IntKind.i64), PK.bo (Kd.sl (Kd.int IntKind.i64)), PK.ro (Kd.int IntKind.i64)], true, [], S.s_l01PutBack⟩
theorem v_s_l01PutBack : Valid Go.Proofs.Tryz.prog gl 128 ct_s_l01PutBack := by
  refine Valid.less (ps := [PK.mu (Kd.int IntKind.i64), PK.bo (Kd.sl (Kd.int IntKind.i64)), PK.ro (Kd.int IntKind.i64)]) (tup := true) (rs := []) (g := P.s_l01PutBack) (fun k => valid (fx := ⟨⟨Go.Proofs.Tryz.prog, td, [], [], []⟩, k, [(2, [(12, Sp.dat false (Kd.int IntKind.i64)), (11, Sp.dat false (Kd.int IntKind.i64)), (10, Sp.dat true (Kd.sl (Kd.int IntKind.i64))),   (0, Sp.own (0) false (Kd.int IntKind.i64)), (2, Sp.dat false (Kd.int IntKind.i64)), (6, Sp.dat false (Kd.int IntKind.i64)),   (1, Sp.dat true (Kd.sl (Kd.int IntKind.i64)))])]⟩) (fn := Go.Proofs.Tryz.f128) (c := Go.Proofs.Tryz.f128.body.getD .skip) mixed tdOk (ctsNil _ _ _ _ _) Go.Proofs.Tryz.func128 (by kernel_rfl) (by kernel_rfl) (fun x => ?_)) S.s_l01PutBack_ok
  kernel_rfl
def ct_s_l01NatDiv : Ct := ⟨[PK.bo (Kd.sl (Kd.int IntKind.i64)), PK.bo (Kd.sl (Kd.int IntKind.i64))], true, [(false, [RC.ro (Kd.sl (Kd.int IntKind.i64))]), (false, [RC.ro (Kd.sl (Kd.int IntKind.i64))])], S.s_l01NatDiv⟩
theorem v_s_l01NatDiv : Valid Go.Proofs.Tryz.prog gl 89 ct_s_l01NatDiv := by
  refine Valid.less (ps := [PK.bo (Kd.sl (Kd.int IntKind.i64)), PK.bo (Kd.sl (Kd.int IntKind.i64))]) (tup := true) (rs := [(false, [RC.ro (Kd.sl (Kd.int IntKind.i64))]), (false, [RC.ro (Kd.sl (Kd.int IntKind.i64))])]) (g := P.s_l01NatDiv) (fun k => valid (fx := ⟨⟨Go.Proofs.Tryz.prog, td, [(123, ct_s_l01Trim), (106, ct_s_l01Nat), (86, ct_s_l01Cmp), (124, ct_s_l01Small), (126, ct_s_l01ShortMul), (125, ct_s_l01ShortDiv), (127, ct_s_l01TakeOff), (128, ct_s_l01PutBack)], [], []⟩, k, [(21, [(19, Sp.dat false (Kd.int IntKind.i64)), (14, Sp.dat false (Kd.sl (Kd.int IntKind.i64))),   (15, Sp.dat false (Kd.int IntKind.i64)), (20, Sp.dat false (Kd.int IntKind.i64)),   (13, Sp.own (624) true (Kd.int IntKind.i64)), (17, Sp.dat false (Kd.int IntKind.i64)),   (16, Sp.own (744) true (Kd.int IntKind.i64)), (12, Sp.dat false (Kd.int IntKind.i64))]), (17, [(17, Sp.dat false (Kd.int IntKind.i64)), (13, Sp.own (624) true (Kd.int IntKind.i64)), (15, Sp.dat false (Kd.int IntKind.i64)),   (14, Sp.dat false (Kd.sl (Kd.int IntKind.i64))), (16, Sp.own (744) true (Kd.int IntKind.i64)),   (12, Sp.dat false (Kd.int IntKind.i64))])]⟩) (fn := Go.Proofs.Tryz.f89) (c := Go.Proofs.Tryz.f89.body.getD .skip) mixed tdOk (ctsCons v_s_l01Trim (ctsCons v_s_l01Nat (ctsCons v_s_l01Cmp (ctsCons v_s_l01Small (ctsCons v_s_l01ShortMul (ctsCons v_s_l01ShortDiv (ctsCons v_s_l01TakeOff (ctsCons v_s_l01PutBack (ctsNil _ _ _ _ _))))))))) Go.Proofs.Tryz.func89 (by kernel_rfl) (by kernel_rfl) (fun x => ?_)) S.s_l01NatDiv_ok
  kernel_rfl
def ct_s_l01Gcd : Ct := ⟨[PK.ro (Kd.sl (Kd.int IntKind.i64)), PK.ro (Kd.sl (Kd.int IntKind.i64))], false, [(false, [RC.ro (Kd.sl (Kd.int IntKind.i64))])], S.s_l01Gcd⟩
theorem v_s_l01Gcd : Valid Go.Proofs.Tryz.prog gl 87 ct_s_l01Gcd := by
  refine Valid.less (ps := [PK.ro (Kd.sl (Kd.int IntKind.i64)), PK.ro (Kd.sl (Kd.int IntKind.i64))]) (tup := false) (rs := [(false, [RC.ro (Kd.sl (Kd.int IntKind.i64))])]) (g := P.s_l01Gcd) (fun k => valid (fx := ⟨⟨Go.Proofs.Tryz.prog, td, [(89, ct_s_l01NatDiv)], [], []⟩, k, [(1, [(1, Sp.dat false (Kd.sl (Kd.int IntKind.i64))), (0, Sp.dat false (Kd.sl (Kd.int IntKind.i64)))])]⟩) (fn := Go.Proofs.Tryz.f87) (c := Go.Proofs.Tryz.f87.body.getD .skip) mixed tdOk (ctsCons v_s_l01NatDiv (ctsNil _ _ _ _ _)) Go.Proofs.Tryz.func87 (by kernel_rfl) (by kernel_rfl) (fun x => ?_)) S.s_l01Gcd_ok
  kernel_rfl
def ct_s_l01Make : Ct := ⟨[PK.ro Kd.bool, PK.ro (Kd.sl (Kd.int IntKind.i64)), PK.ro (Kd.sl (Kd.int IntKind.i64))], false, [(true, [RC.ro (Kd.st (Kd.pair Kd.bool (Kd.pair (Kd.sl (Kd.int IntKind.i64)) (Kd.sl (Kd.int IntKind.i64)))))])], S.s_l01Make⟩
theorem v_s_l01Make : Valid Go.Proofs.Tryz.prog gl 64 ct_s_l01Make := by
  refine Valid.less (ps := [PK.ro Kd.bool, PK.ro (Kd.sl (Kd.int IntKind.i64)), PK.ro (Kd.sl (Kd.int IntKind.i64))]) (tup := false) (rs := [(true, [RC.ro (Kd.st (Kd.pair Kd.bool (Kd.pair (Kd.sl (Kd.int IntKind.i64)) (Kd.sl (Kd.int IntKind.i64)))))])]) (g := P.s_l01Make) (fun k => valid (fx := ⟨⟨Go.Proofs.Tryz.prog, td, [(86, ct_s_l01Cmp), (89, ct_s_l01NatDiv), (87, ct_s_l01Gcd)], [], []⟩, k, []⟩) (fn := Go.Proofs.Tryz.f64) (c := Go.Proofs.Tryz.f64.body.getD .skip) mixed tdOk (ctsCons v_s_l01Cmp (ctsCons v_s_l01NatDiv (ctsCons v_s_l01Gcd (ctsNil _ _ _ _ _)))) Go.Proofs.Tryz.func64 (by kernel_rfl) (by kernel_rfl) (fun x => ?_)) S.s_l01Make_ok
  kernel_rfl
def ct_s_l01Sum : Ct := ⟨[PK.bo (Kd.st (Kd.pair Kd.bool (Kd.pair (Kd.sl (Kd.int IntKind.i64)) (Kd.sl (Kd.int IntKind.i64))))),   PK.bo (Kd.st (Kd.pair Kd.bool (Kd.pair (Kd.sl (Kd.int IntKind.i64)) (Kd.sl (Kd.int IntKind.i64)))))], false, [(true, [RC.ro (Kd.st (Kd.pair Kd.bool (Kd.pair (Kd.sl (Kd.int IntKind.i64)) (Kd.sl (Kd.int IntKind.i64)))))])], S.s_l01Sum⟩
theorem v_s_l01Sum : Valid Go.Proofs.Tryz.prog gl 60 ct_s_l01Sum := by
  refine Valid.less (ps := [PK.bo (Kd.st (Kd.pair Kd.bool (Kd.pair (Kd.sl (Kd.int IntKind.i64)) (Kd.sl (Kd.int IntKind.i64))))),   PK.bo (Kd.st (Kd.pair Kd.bool (Kd.pair (Kd.sl (Kd.int IntKind.i64)) (Kd.sl (Kd.int IntKind.i64)))))]) (tup := false) (rs := [(true, [RC.ro (Kd.st (Kd.pair Kd.bool (Kd.pair (Kd.sl (Kd.int IntKind.i64)) (Kd.sl (Kd.int IntKind.i64)))))])]) (g := P.s_l01Sum) (fun k => valid (fx := ⟨⟨Go.Proofs.Tryz.prog, td, [(86, ct_s_l01Cmp), (99, ct_s_l01NatMul), (90, ct_s_l01NatAdd), (102, ct_s_l01NatLess), (64, ct_s_l01Make)], [], []⟩, k, []⟩) (fn := Go.Proofs.Tryz.f60) (c := Go.Proofs.Tryz.f60.body.getD .skip) mixed tdOk (ctsCons v_s_l01Cmp (ctsCons v_s_l01NatMul (ctsCons v_s_l01NatAdd (ctsCons v_s_l01NatLess (ctsCons v_s_l01Make (ctsNil _ _ _ _ _)))))) Go.Proofs.Tryz.func60 (by kernel_rfl) (by kernel_rfl) (fun x => ?_)) S.s_l01Sum_ok
  kernel_rfl
def ct_s_l01Minus : Ct := ⟨[PK.ro (Kd.st (Kd.pair Kd.bool (Kd.pair (Kd.sl (Kd.int IntKind.i64)) (Kd.sl (Kd.int IntKind.i64))))),   PK.ro (Kd.st (Kd.pair Kd.bool (Kd.pair (Kd.sl (Kd.int IntKind.i64)) (Kd.sl (Kd.int IntKind.i64)))))], false, [(true, [RC.ro (Kd.st (Kd.pair Kd.bool (Kd.pair (Kd.sl (Kd.int IntKind.i64)) (Kd.sl (Kd.int IntKind.i64)))))])], S.s_l01Minus⟩
theorem v_s_l01Minus : Valid Go.Proofs.Tryz.prog gl 62 ct_s_l01Minus := by
  refine Valid.less (ps := [PK.ro (Kd.st (Kd.pair Kd.bool (Kd.pair (Kd.sl (Kd.int IntKind.i64)) (Kd.sl (Kd.int IntKind.i64))))),   PK.ro (Kd.st (Kd.pair Kd.bool (Kd.pair (Kd.sl (Kd.int IntKind.i64)) (Kd.sl (Kd.int IntKind.i64)))))]) (tup := false) (rs := [(true, [RC.ro (Kd.st (Kd.pair Kd.bool (Kd.pair (Kd.sl (Kd.int IntKind.i64)) (Kd.sl (Kd.int IntKind.i64)))))])]) (g := P.s_l01Minus) (fun k => valid (fx := ⟨⟨Go.Proofs.Tryz.prog, td, [(104, ct_s_l01Opposite), (60, ct_s_l01Sum)], [], []⟩, k, []⟩) (fn := Go.Proofs.Tryz.f62) (c := Go.Proofs.Tryz.f62.body.getD .skip) mixed tdOk (ctsCons v_s_l01Opposite (ctsCons v_s_l01Sum (ctsNil _ _ _ _ _))) Go.Proofs.Tryz.func62 (by kernel_rfl) (by kernel_rfl) (fun x => ?_)) S.s_l01Minus_ok
  kernel_rfl
def ct_s_l01Cut : Ct := ⟨[PK.ro Kd.str, PK.ro (Kd.int IntKind.u8)], false, [(false, [RC.own Kd.str])], S.s_l01Cut⟩
theorem v_s_l01Cut : Valid Go.Proofs.Tryz.prog gl 83 ct_s_l01Cut := by
  refine Valid.less (ps := [PK.ro Kd.str, PK.ro (Kd.int IntKind.u8)]) (tup := false) (rs := [(false, [RC.own Kd.str])]) (g := P.s_l01Cut) (fun k => valid (fx := ⟨⟨Go.Proofs.Tryz.prog, td, [], [], []⟩, k, [(4, [(7, Sp.dat false (Kd.int IntKind.i64)), (0, Sp.dat false Kd.str), (1, Sp.dat false (Kd.int IntKind.u8)),   (5, Sp.own (64) true Kd.str), (6, Sp.dat false (Kd.int IntKind.i64))])]⟩) (fn := Go.Proofs.Tryz.f83) (c := Go.Proofs.Tryz.f83.body.getD .skip) mixed tdOk (ctsNil _ _ _ _ _) Go.Proofs.Tryz.func83 (by kernel_rfl) (by kernel_rfl) (fun x => ?_)) S.s_l01Cut_ok
  kernel_rfl
def ct_s_l01NatRead : Ct := ⟨[PK.ro Kd.str], false, [(false, [RC.ro (Kd.sl (Kd.int IntKind.i64))])], S.s_l01NatRead⟩
theorem v_s_l01NatRead : Valid Go.Proofs.Tryz.prog gl 85 ct_s_l01NatRead := by
  refine Valid.less (ps := [PK.ro Kd.str]) (tup := false) (rs := [(false, [RC.ro (Kd.sl (Kd.int IntKind.i64))])]) (g := P.s_l01NatRead) (fun k => valid (fx := ⟨⟨Go.Proofs.Tryz.prog, td, [(123, ct_s_l01Trim)], [], []⟩, k, [(10, [(7, Sp.dat false (Kd.int IntKind.i64)), (4, Sp.dat false (Kd.int IntKind.i64)), (6, Sp.dat false (Kd.int IntKind.i64)),   (0, Sp.dat false Kd.str), (3, Sp.own (64) true (Kd.int IntKind.i64))]), (3, [(4, Sp.dat false (Kd.int IntKind.i64)), (0, Sp.dat false Kd.str), (3, Sp.own (64) true (Kd.int IntKind.i64))])]⟩) (fn := Go.Proofs.Tryz.f85) (c := Go.Proofs.Tryz.f85.body.getD .skip) mixed tdOk (ctsCons v_s_l01Trim (ctsNil _ _ _ _ _)) Go.Proofs.Tryz.func85 (by kernel_rfl) (by kernel_rfl) (fun x => ?_)) S.s_l01NatRead_ok
  kernel_rfl
def ct_s_l01Digits : Ct := ⟨[PK.ro Kd.str], false, [(false, [RC.ro Kd.bool])], S.s_l01Digits⟩
theorem v_s_l01Digits : Valid Go.Proofs.Tryz.prog gl 84 ct_s_l01Digits := by
  refine Valid.less (ps := [PK.ro Kd.str]) (tup := false) (rs := [(false, [RC.ro Kd.bool])]) (g := P.s_l01Digits) (fun k => valid (fx := ⟨⟨Go.Proofs.Tryz.prog, td, [], [], []⟩, k, [(2, [(3, Sp.dat false (Kd.int IntKind.i64)), (0, Sp.dat false Kd.str)])]⟩) (fn := Go.Proofs.Tryz.f84) (c := Go.Proofs.Tryz.f84.body.getD .skip) mixed tdOk (ctsNil _ _ _ _ _) Go.Proofs.Tryz.func84 (by kernel_rfl) (by kernel_rfl) (fun x => ?_)) S.s_l01Digits_ok
  kernel_rfl
def ct_s_l01Parse : Ct := ⟨[PK.ro Kd.str], true, [(true, [RC.ro (Kd.st (Kd.pair Kd.bool (Kd.pair (Kd.sl (Kd.int IntKind.i64)) (Kd.sl (Kd.int IntKind.i64)))))]), (false, [RC.ro Kd.bool])], S.s_l01Parse⟩
theorem v_s_l01Parse : Valid Go.Proofs.Tryz.prog gl 41 ct_s_l01Parse := by
  refine Valid.less (ps := [PK.ro Kd.str]) (tup := true) (rs := [(true, [RC.ro (Kd.st (Kd.pair Kd.bool (Kd.pair (Kd.sl (Kd.int IntKind.i64)) (Kd.sl (Kd.int IntKind.i64)))))]), (false, [RC.ro Kd.bool])]) (g := P.s_l01Parse) (fun k => valid (fx := ⟨⟨Go.Proofs.Tryz.prog, td, [(83, ct_s_l01Cut), (86, ct_s_l01Cmp), (87, ct_s_l01Gcd), (85, ct_s_l01NatRead), (84, ct_s_l01Digits)], [], []⟩, k, []⟩) (fn := Go.Proofs.Tryz.f41) (c := Go.Proofs.Tryz.f41.body.getD .skip) mixed tdOk (ctsCons v_s_l01Cut (ctsCons v_s_l01Cmp (ctsCons v_s_l01Gcd (ctsCons v_s_l01NatRead (ctsCons v_s_l01Digits (ctsNil _ _ _ _ _)))))) Go.Proofs.Tryz.func41 (by kernel_rfl) (by kernel_rfl) (fun x => ?_)) S.s_l01Parse_ok
  kernel_rfl
def ct_s_l01Two : Ct := ⟨[PK.ro Kd.str, PK.ro Kd.str], true, [(true, [RC.ro (Kd.st (Kd.pair Kd.bool (Kd.pair (Kd.sl (Kd.int IntKind.i64)) (Kd.sl (Kd.int IntKind.i64)))))]),   (true, [RC.ro (Kd.st (Kd.pair Kd.bool (Kd.pair (Kd.sl (Kd.int IntKind.i64)) (Kd.sl (Kd.int IntKind.i64)))))]), (false, [RC.ro Kd.bool])], S.s_l01Two⟩
theorem v_s_l01Two : Valid Go.Proofs.Tryz.prog gl 47 ct_s_l01Two := by
  refine Valid.less (ps := [PK.ro Kd.str, PK.ro Kd.str]) (tup := true) (rs := [(true, [RC.ro (Kd.st (Kd.pair Kd.bool (Kd.pair (Kd.sl (Kd.int IntKind.i64)) (Kd.sl (Kd.int IntKind.i64)))))]),   (true, [RC.ro (Kd.st (Kd.pair Kd.bool (Kd.pair (Kd.sl (Kd.int IntKind.i64)) (Kd.sl (Kd.int IntKind.i64)))))]), (false, [RC.ro Kd.bool])]) (g := P.s_l01Two) (fun k => valid (fx := ⟨⟨Go.Proofs.Tryz.prog, td, [(41, ct_s_l01Parse)], [], []⟩, k, []⟩) (fn := Go.Proofs.Tryz.f47) (c := Go.Proofs.Tryz.f47.body.getD .skip) mixed tdOk (ctsCons v_s_l01Parse (ctsNil _ _ _ _ _)) Go.Proofs.Tryz.func47 (by kernel_rfl) (by kernel_rfl) (fun x => ?_)) S.s_l01Two_ok
  kernel_rfl
def ct_s_LessFraction : Ct := ⟨[PK.ro Kd.str, PK.ro Kd.str], true, [(false, [RC.ro Kd.str]), (false, [RC.ro Kd.bool])], S.s_LessFraction⟩
theorem v_s_LessFraction : Valid Go.Proofs.Tryz.prog gl 28 ct_s_LessFraction := by
  refine Valid.less (ps := [PK.ro Kd.str, PK.ro Kd.str]) (tup := true) (rs := [(false, [RC.ro Kd.str]), (false, [RC.ro Kd.bool])]) (g := P.s_LessFraction) (fun k => valid (fx := ⟨⟨Go.Proofs.Tryz.prog, td, [(42, ct_s_l01Give), (62, ct_s_l01Minus), (47, ct_s_l01Two)], [], []⟩, k, []⟩) (fn := Go.Proofs.Tryz.f28) (c := Go.Proofs.Tryz.f28.body.getD .skip) mixed tdOk (ctsCons v_s_l01Give (ctsCons v_s_l01Minus (ctsCons v_s_l01Two (ctsNil _ _ _ _ _)))) Go.Proofs.Tryz.func28 (by kernel_rfl) (by kernel_rfl) (fun x => ?_)) S.s_LessFraction_ok
  kernel_rfl
def ct_l_FnExactLessFraction : Ct := ⟨[PK.ro Kd.str, PK.ro Kd.str], false, [(false, [RC.ro Kd.bool])], S.l_FnExactLessFraction⟩
theorem v_l_FnExactLessFraction (hM : InM gl) (hP : InP gl) (hR : InR gl) (hS : InS gl) : Valid Go.Proofs.Tryz.prog gl 9 ct_l_FnExactLessFraction := by
  refine Valid.less (ps := [PK.ro Kd.str, PK.ro Kd.str]) (tup := false) (rs := [(false, [RC.ro Kd.bool])]) (g := P.l_FnExactLessFraction) (fun k => valid (fx := ⟨⟨Go.Proofs.Tryz.prog, td, [(29, ct_i_LessFraction), (28, ct_s_LessFraction)], [], []⟩, k, []⟩) (fn := Go.Proofs.Tryz.f9) (c := Go.Proofs.Tryz.f9.body.getD .skip) mixed tdOk (ctsCons (v_i_LessFraction hM hP hR hS) (ctsCons v_s_LessFraction (ctsNil _ _ _ _ _))) Go.Proofs.Tryz.func9 (by kernel_rfl) (by kernel_rfl) (fun x => ?_)) S.l_FnExactLessFraction_ok
  kernel_rfl
end Go.Cm.LnLessFraction
end
