import Derived.Test.YtlnejaehiangnaaDoorPlLeastServers
import Derived.Test.YtlnejaehiangnaaDoorChecked
import Derived.Test.YtlnejaehiangnaaDoorL3dShelf
import Derived.WalkKit
import Derived.BigCall
import Derived.BigGuard
import Derived.Lib.ItoaMem
import Derived.Lib.AppendIntMem
set_option linter.unusedVariables false
set_option maxRecDepth 100000
noncomputable section
namespace Go.Cm.LnLeastServers
open Go.RowKit
variable {gl : List (Nat × List Value)}
theorem td2 : TdOk Go.Proofs.Tryd.prog 2 ⟨Kd.int IntKind.i64, 8, false, 0, []⟩ := .of (by kernel_rfl) (.inr (by kernel_rfl)) rfl (Go.Proofs.Tryd.underlying2)
theorem td3 : TdOk Go.Proofs.Tryd.prog 3 ⟨Kd.int IntKind.i64, 8, false, 0, []⟩ := .of (by kernel_rfl) (.inr (by kernel_rfl)) rfl (Go.Proofs.Tryd.underlying3)
theorem td4 : TdOk Go.Proofs.Tryd.prog 4 ⟨Kd.bool, 1, false, 0, []⟩ := .of (by kernel_rfl) (.inr (by kernel_rfl)) rfl (Go.Proofs.Tryd.underlying4)
theorem td5 : TdOk Go.Proofs.Tryd.prog 5 ⟨Kd.int IntKind.u8, 1, false, 0, []⟩ := .of (by kernel_rfl) (.inr (by kernel_rfl)) rfl (Go.Proofs.Tryd.underlying5)
theorem td9 : TdOk Go.Proofs.Tryd.prog 9 ⟨Kd.str, 16, false, 0, []⟩ := .of (by kernel_rfl) (.inr (by kernel_rfl)) rfl (Go.Proofs.Tryd.underlying9)
theorem td25 : TdOk Go.Proofs.Tryd.prog 25 ⟨Kd.sl Kd.str, 24, false, 9, []⟩ := .of (by kernel_rfl) (.inr (by kernel_rfl)) rfl (Go.Proofs.Tryd.underlying25)
theorem td34 : TdOk Go.Proofs.Tryd.prog 34 ⟨Kd.sl (Kd.int IntKind.i64), 24, false, 2, []⟩ := .of (by kernel_rfl) (.inr (by kernel_rfl)) rfl (Go.Proofs.Tryd.underlying34)
theorem td36 : TdOk Go.Proofs.Tryd.prog 36 ⟨Kd.st (Kd.pair Kd.bool (Kd.pair (Kd.sl (Kd.int IntKind.i64)) (Kd.sl (Kd.int IntKind.i64)))), 56, true, 0, [(0, 4), (1, 34), (2, 34)]⟩ := .of (by kernel_rfl) (.inr (by kernel_rfl)) rfl (⟨_, Go.Proofs.Tryd.underlying36, by kernel_rfl, by kernel_rfl⟩)
theorem td43 : TdOk Go.Proofs.Tryd.prog 43 ⟨Kd.sl (Kd.int IntKind.u32), 24, false, 98, []⟩ := .of (by kernel_rfl) (.inr (by kernel_rfl)) rfl (Go.Proofs.Tryd.underlying43)
theorem td45 : TdOk Go.Proofs.Tryd.prog 45 ⟨Kd.st (Kd.pair Kd.bool (Kd.pair (Kd.sl (Kd.int IntKind.u32)) (Kd.sl (Kd.int IntKind.u32)))), 56, true, 0, [(0, 4), (1, 43), (2, 43)]⟩ := .of (by kernel_rfl) (.inr (by kernel_rfl)) rfl (⟨_, Go.Proofs.Tryd.underlying45, by kernel_rfl, by kernel_rfl⟩)
theorem td57 : TdOk Go.Proofs.Tryd.prog 57 ⟨Kd.sl (Kd.st (Kd.pair Kd.bool (Kd.pair (Kd.sl (Kd.int IntKind.u32)) (Kd.sl (Kd.int IntKind.u32))))), 24, false, 45, []⟩ := .of (by kernel_rfl) (.inr (by kernel_rfl)) rfl (Go.Proofs.Tryd.underlying57)
theorem td78 : TdOk Go.Proofs.Tryd.prog 78 ⟨Kd.int IntKind.u64, 8, false, 0, []⟩ := .of (by kernel_rfl) (.inr (by kernel_rfl)) rfl (Go.Proofs.Tryd.underlying78)
theorem td95 : TdOk Go.Proofs.Tryd.prog 95 ⟨Kd.er, 16, false, 0, []⟩ := .of (by kernel_rfl) (.inr (by kernel_rfl)) rfl (⟨_, Go.Proofs.Tryd.underlying95⟩)
theorem td98 : TdOk Go.Proofs.Tryd.prog 98 ⟨Kd.int IntKind.u32, 4, false, 0, []⟩ := .of (by kernel_rfl) (.inr (by kernel_rfl)) rfl (Go.Proofs.Tryd.underlying98)
theorem td99 : TdOk Go.Proofs.Tryd.prog 99 ⟨Kd.int IntKind.u64, 8, false, 0, []⟩ := .of (by kernel_rfl) (.inr (by kernel_rfl)) rfl (Go.Proofs.Tryd.underlying99)
def td : List (Nat × Td) := [(2, ⟨Kd.int IntKind.i64, 8, false, 0, []⟩), (3, ⟨Kd.int IntKind.i64, 8, false, 0, []⟩), (4, ⟨Kd.bool, 1, false, 0, []⟩), (5, ⟨Kd.int IntKind.u8, 1, false, 0, []⟩), (9, ⟨Kd.str, 16, false, 0, []⟩), (25, ⟨Kd.sl Kd.str, 24, false, 9, []⟩), (34, ⟨Kd.sl (Kd.int IntKind.i64), 24, false, 2, []⟩), (36, ⟨Kd.st (Kd.pair Kd.bool (Kd.pair (Kd.sl (Kd.int IntKind.i64)) (Kd.sl (Kd.int IntKind.i64)))), 56, true, 0, [(0, 4), (1, 34), (2, 34)]⟩), (43, ⟨Kd.sl (Kd.int IntKind.u32), 24, false, 98, []⟩), (45, ⟨Kd.st (Kd.pair Kd.bool (Kd.pair (Kd.sl (Kd.int IntKind.u32)) (Kd.sl (Kd.int IntKind.u32)))), 56, true, 0, [(0, 4), (1, 43), (2, 43)]⟩), (57, ⟨Kd.sl (Kd.st (Kd.pair Kd.bool (Kd.pair (Kd.sl (Kd.int IntKind.u32)) (Kd.sl (Kd.int IntKind.u32))))), 24, false, 45, []⟩), (78, ⟨Kd.int IntKind.u64, 8, false, 0, []⟩), (95, ⟨Kd.er, 16, false, 0, []⟩), (98, ⟨Kd.int IntKind.u32, 4, false, 0, []⟩), (99, ⟨Kd.int IntKind.u64, 8, false, 0, []⟩)]
theorem tdOk : TdsOk ⟨Go.Proofs.Tryd.prog, td, [], [], []⟩ Go.Proofs.Tryd.prog := tdsCons td2 (tdsCons td3 (tdsCons td4 (tdsCons td5 (tdsCons td9 (tdsCons td25 (tdsCons td34 (tdsCons td36 (tdsCons td43 (tdsCons td45 (tdsCons td57 (tdsCons td78 (tdsCons td95 (tdsCons td98 (tdsCons td99 (tdsNil _ _ _ _)))))))))))))))
theorem mixed : Go.Proofs.Tryd.prog.follows .mixedOrders = true := by kernel_rfl
/-- Package-level variables that are laid. -/
def InP (gl : List (Nat × List Value)) : Prop := (3, Go.Lib.pow10Tab.map fun z => Value.int .u64 z) ∈ gl
def InM (gl : List (Nat × List Value)) : Prop := ∃ m, (0, [Value.int .i64 m]) ∈ gl
def InS (gl : List (Nat × List Value)) : Prop := ∃ t p, (1, [Value.iface t p]) ∈ gl
def InR (gl : List (Nat × List Value)) : Prop := ∃ t p, (2, [Value.iface t p]) ∈ gl
def ct_s_l01Cmp : Ct := ⟨[PK.bo (Kd.sl (Kd.int IntKind.i64)), PK.bo (Kd.sl (Kd.int IntKind.i64))], false, [(false, [RC.ro (Kd.int IntKind.i64)])], S.s_l01Cmp, []⟩
theorem v_s_l01Cmp : Valid Go.Proofs.Tryd.prog gl 29 ct_s_l01Cmp := by
  refine Valid.less (ps := [PK.bo (Kd.sl (Kd.int IntKind.i64)), PK.bo (Kd.sl (Kd.int IntKind.i64))]) (tup := false) (rs := [(false, [RC.ro (Kd.int IntKind.i64)])]) (ar := []) (g := P.s_l01Cmp) (fun k => valid (fx := ⟨⟨Go.Proofs.Tryd.prog, td, [], [], []⟩, k, [(6, [(5, Sp.dat false (Kd.int IntKind.i64)), (0, Sp.dat true (Kd.sl (Kd.int IntKind.i64))),   (1, Sp.dat true (Kd.sl (Kd.int IntKind.i64)))])]⟩) (fn := Go.Proofs.Tryd.f29) (c := Go.Proofs.Tryd.f29.body.getD .skip) mixed tdOk (ctsNil _ _ _ _ _) Go.Proofs.Tryd.func29 (by kernel_rfl) (by kernel_rfl) (fun x => ?_)) S.s_l01Cmp_ok
  kernel_rfl
def ct_s_l01Trim : Ct := ⟨[PK.ro (Kd.sl (Kd.int IntKind.i64))], false, [(false, [RC.ro (Kd.sl (Kd.int IntKind.i64))])], S.s_l01Trim, []⟩
theorem v_s_l01Trim : Valid Go.Proofs.Tryd.prog gl 50 ct_s_l01Trim := by
  refine Valid.less (ps := [PK.ro (Kd.sl (Kd.int IntKind.i64))]) (tup := false) (rs := [(false, [RC.ro (Kd.sl (Kd.int IntKind.i64))])]) (ar := []) (g := P.s_l01Trim) (fun k => valid (fx := ⟨⟨Go.Proofs.Tryd.prog, td, [], [], []⟩, k, [(1, [(0, Sp.dat false (Kd.sl (Kd.int IntKind.i64)))])]⟩) (fn := Go.Proofs.Tryd.f50) (c := Go.Proofs.Tryd.f50.body.getD .skip) mixed tdOk (ctsNil _ _ _ _ _) Go.Proofs.Tryd.func50 (by kernel_rfl) (by kernel_rfl) (fun x => ?_)) S.s_l01Trim_ok
  kernel_rfl
def ct_s_l01NatMul : Ct := ⟨[PK.bo (Kd.sl (Kd.int IntKind.i64)), PK.bo (Kd.sl (Kd.int IntKind.i64))], false, [(false, [RC.ro (Kd.sl (Kd.int IntKind.i64))])], S.s_l01NatMul, []⟩
theorem v_s_l01NatMul : Valid Go.Proofs.Tryd.prog gl 31 ct_s_l01NatMul := by
  refine Valid.less (ps := [PK.bo (Kd.sl (Kd.int IntKind.i64)), PK.bo (Kd.sl (Kd.int IntKind.i64))]) (tup := false) (rs := [(false, [RC.ro (Kd.sl (Kd.int IntKind.i64))])]) (ar := []) (g := P.s_l01NatMul) (fun k => valid (fx := ⟨⟨Go.Proofs.Tryd.prog, td, [(50, ct_s_l01Trim)], [], []⟩, k, [(7, [(23, Sp.dat false (Kd.int IntKind.i64)), (22, Sp.dat false (Kd.int IntKind.i64)), (5, Sp.own (120) true (Kd.int IntKind.i64)),   (6, Sp.dat false (Kd.int IntKind.i64)), (0, Sp.dat true (Kd.sl (Kd.int IntKind.i64))),   (1, Sp.dat true (Kd.sl (Kd.int IntKind.i64))), (7, Sp.dat false (Kd.int IntKind.i64)), (18, Sp.dat false (Kd.int IntKind.i64)),   (17, Sp.dat false (Kd.int IntKind.i64))]), (3, [(18, Sp.dat false (Kd.int IntKind.i64)), (17, Sp.dat false (Kd.int IntKind.i64)), (1, Sp.dat true (Kd.sl (Kd.int IntKind.i64))),   (5, Sp.own (120) true (Kd.int IntKind.i64)), (0, Sp.dat true (Kd.sl (Kd.int IntKind.i64)))])]⟩) (fn := Go.Proofs.Tryd.f31) (c := Go.Proofs.Tryd.f31.body.getD .skip) mixed tdOk (ctsCons v_s_l01Trim (ctsNil _ _ _ _ _)) Go.Proofs.Tryd.func31 (by kernel_rfl) (by kernel_rfl) (fun x => ?_)) S.s_l01NatMul_ok
  kernel_rfl
def ct_s_l01Less : Ct := ⟨[PK.bo (Kd.st (Kd.pair Kd.bool (Kd.pair (Kd.sl (Kd.int IntKind.i64)) (Kd.sl (Kd.int IntKind.i64))))),   PK.bo (Kd.st (Kd.pair Kd.bool (Kd.pair (Kd.sl (Kd.int IntKind.i64)) (Kd.sl (Kd.int IntKind.i64)))))], false, [(false, [RC.ro Kd.bool])], S.s_l01Less, []⟩
theorem v_s_l01Less : Valid Go.Proofs.Tryd.prog gl 15 ct_s_l01Less := by
  refine Valid.less (ps := [PK.bo (Kd.st (Kd.pair Kd.bool (Kd.pair (Kd.sl (Kd.int IntKind.i64)) (Kd.sl (Kd.int IntKind.i64))))),   PK.bo (Kd.st (Kd.pair Kd.bool (Kd.pair (Kd.sl (Kd.int IntKind.i64)) (Kd.sl (Kd.int IntKind.i64)))))]) (tup := false) (rs := [(false, [RC.ro Kd.bool])]) (ar := []) (g := P.s_l01Less) (fun k => valid (fx := ⟨⟨Go.Proofs.Tryd.prog, td, [(29, ct_s_l01Cmp), (31, ct_s_l01NatMul)], [], []⟩, k, []⟩) (fn := Go.Proofs.Tryd.f15) (c := Go.Proofs.Tryd.f15.body.getD .skip) mixed tdOk (ctsCons v_s_l01Cmp (ctsCons v_s_l01NatMul (ctsNil _ _ _ _ _))) Go.Proofs.Tryd.func15 (by kernel_rfl) (by kernel_rfl) (fun x => ?_)) S.s_l01Less_ok
  kernel_rfl
def ct_s_l01Cut : Ct := ⟨[PK.ro Kd.str, PK.ro (Kd.int IntKind.u8)], false, [(false, [RC.own Kd.str])], S.s_l01Cut, []⟩
theorem v_s_l01Cut : Valid Go.Proofs.Tryd.prog gl 26 ct_s_l01Cut := by
  refine Valid.less (ps := [PK.ro Kd.str, PK.ro (Kd.int IntKind.u8)]) (tup := false) (rs := [(false, [RC.own Kd.str])]) (ar := []) (g := P.s_l01Cut) (fun k => valid (fx := ⟨⟨Go.Proofs.Tryd.prog, td, [], [], []⟩, k, [(4, [(7, Sp.dat false (Kd.int IntKind.i64)), (0, Sp.dat false Kd.str), (1, Sp.dat false (Kd.int IntKind.u8)),   (5, Sp.own (64) true Kd.str), (6, Sp.dat false (Kd.int IntKind.i64))])]⟩) (fn := Go.Proofs.Tryd.f26) (c := Go.Proofs.Tryd.f26.body.getD .skip) mixed tdOk (ctsNil _ _ _ _ _) Go.Proofs.Tryd.func26 (by kernel_rfl) (by kernel_rfl) (fun x => ?_)) S.s_l01Cut_ok
  kernel_rfl
def ct_s_l01Nat : Ct := ⟨[PK.ro (Kd.int IntKind.i64)], false, [(false, [RC.ro (Kd.sl (Kd.int IntKind.i64))])], S.s_l01Nat, []⟩
theorem v_s_l01Nat : Valid Go.Proofs.Tryd.prog gl 33 ct_s_l01Nat := by
  refine Valid.less (ps := [PK.ro (Kd.int IntKind.i64)]) (tup := false) (rs := [(false, [RC.ro (Kd.sl (Kd.int IntKind.i64))])]) (ar := []) (g := P.s_l01Nat) (fun k => valid (fx := ⟨⟨Go.Proofs.Tryd.prog, td, [], [], []⟩, k, [(2, [(0, Sp.dat false (Kd.int IntKind.i64)), (3, Sp.own (32) true (Kd.int IntKind.i64))])]⟩) (fn := Go.Proofs.Tryd.f33) (c := Go.Proofs.Tryd.f33.body.getD .skip) mixed tdOk (ctsNil _ _ _ _ _) Go.Proofs.Tryd.func33 (by kernel_rfl) (by kernel_rfl) (fun x => ?_)) S.s_l01Nat_ok
  kernel_rfl
def ct_s_l01Digit : Ct := ⟨[PK.bo (Kd.sl (Kd.int IntKind.i64)), PK.ro (Kd.int IntKind.i64)], false, [(false, [RC.ro (Kd.int IntKind.i64)])], S.s_l01Digit, []⟩
theorem v_s_l01Digit : Valid Go.Proofs.Tryd.prog gl 52 ct_s_l01Digit := by
  refine Valid.less (ps := [PK.bo (Kd.sl (Kd.int IntKind.i64)), PK.ro (Kd.int IntKind.i64)]) (tup := false) (rs := [(false, [RC.ro (Kd.int IntKind.i64)])]) (ar := []) (g := P.s_l01Digit) (fun k => valid (fx := ⟨⟨Go.Proofs.Tryd.prog, td, [], [], []⟩, k, []⟩) (fn := Go.Proofs.Tryd.f52) (c := Go.Proofs.Tryd.f52.body.getD .skip) mixed tdOk (ctsNil _ _ _ _ _) Go.Proofs.Tryd.func52 (by kernel_rfl) (by kernel_rfl) (fun x => ?_)) S.s_l01Digit_ok
  kernel_rfl
def ct_s_l01Small : Ct := ⟨[PK.bo (Kd.sl (Kd.int IntKind.i64))], true, [(false, [RC.ro (Kd.int IntKind.i64)]), (false, [RC.ro Kd.bool])], S.s_l01Small, []⟩
theorem v_s_l01Small : Valid Go.Proofs.Tryd.prog gl 66 ct_s_l01Small := by
  refine Valid.less (ps := [PK.bo (Kd.sl (Kd.int IntKind.i64))]) (tup := true) (rs := [(false, [RC.ro (Kd.int IntKind.i64)]), (false, [RC.ro Kd.bool])]) (ar := []) (g := P.s_l01Small) (fun k => valid (fx := ⟨⟨Go.Proofs.Tryd.prog, td, [(52, ct_s_l01Digit)], [], []⟩, k, []⟩) (fn := Go.Proofs.Tryd.f66) (c := Go.Proofs.Tryd.f66.body.getD .skip) mixed tdOk (ctsCons v_s_l01Digit (ctsNil _ _ _ _ _)) Go.Proofs.Tryd.func66 (by kernel_rfl) (by kernel_rfl) (fun x => ?_)) S.s_l01Small_ok
  kernel_rfl
def ct_s_l01ShortMul : Ct := ⟨[PK.bo (Kd.sl (Kd.int IntKind.i64)), PK.ro (Kd.int IntKind.i64)], false, [(false, [RC.own (Kd.int IntKind.i64)])], S.s_l01ShortMul, []⟩
theorem v_s_l01ShortMul : Valid Go.Proofs.Tryd.prog gl 68 ct_s_l01ShortMul := by
  refine Valid.less (ps := [PK.bo (Kd.sl (Kd.int IntKind.i64)), PK.ro (Kd.int IntKind.i64)]) (tup := false) (rs := [(false, [RC.own (Kd.int IntKind.i64)])]) (ar := []) (g := P.s_l01ShortMul) (fun k => valid (fx := ⟨⟨Go.Proofs.Tryd.prog, td, [], [], []⟩, k, [(4, [(16, Sp.dat false (Kd.int IntKind.i64)), (15, Sp.dat false (Kd.int IntKind.i64)), (14, Sp.dat true (Kd.sl (Kd.int IntKind.i64))),   (1, Sp.dat false (Kd.int IntKind.i64)), (6, Sp.dat false (Kd.int IntKind.i64)), (5, Sp.own (104) true (Kd.int IntKind.i64))])]⟩) (fn := Go.Proofs.Tryd.f68) (c := Go.Proofs.Tryd.f68.body.getD .skip) mixed tdOk (ctsNil _ _ _ _ _) Go.Proofs.Tryd.func68 (by kernel_rfl) (by kernel_rfl) (fun x => ?_)) S.s_l01ShortMul_ok
  kernel_rfl
def ct_s_l01ShortDiv : Ct := ⟨[PK.bo (Kd.sl (Kd.int IntKind.i64)), PK.ro (Kd.int IntKind.i64)], true, [(false, [RC.ro (Kd.sl (Kd.int IntKind.i64))]), (false, [RC.ro (Kd.int IntKind.i64)])], S.s_l01ShortDiv, []⟩
theorem v_s_l01ShortDiv : Valid Go.Proofs.Tryd.prog gl 67 ct_s_l01ShortDiv := by
  refine Valid.less (ps := [PK.bo (Kd.sl (Kd.int IntKind.i64)), PK.ro (Kd.int IntKind.i64)]) (tup := true) (rs := [(false, [RC.ro (Kd.sl (Kd.int IntKind.i64))]), (false, [RC.ro (Kd.int IntKind.i64)])]) (ar := []) (g := P.s_l01ShortDiv) (fun k => valid (fx := ⟨⟨Go.Proofs.Tryd.prog, td, [(50, ct_s_l01Trim)], [], []⟩, k, [(4, [(8, Sp.dat false (Kd.int IntKind.i64)), (7, Sp.dat false (Kd.int IntKind.i64)), (0, Sp.dat true (Kd.sl (Kd.int IntKind.i64))),   (6, Sp.own (96) true (Kd.int IntKind.i64)), (1, Sp.dat false (Kd.int IntKind.i64))])]⟩) (fn := Go.Proofs.Tryd.f67) (c := Go.Proofs.Tryd.f67.body.getD .skip) mixed tdOk (ctsCons v_s_l01Trim (ctsNil _ _ _ _ _)) Go.Proofs.Tryd.func67 (by kernel_rfl) (by kernel_rfl) (fun x => ?_)) S.s_l01ShortDiv_ok
  kernel_rfl
def ct_s_l01TakeOff : Ct := ⟨[PK.mu (Kd.int IntKind.i64), PK.bo (Kd.sl (Kd.int IntKind.i64)), PK.ro (Kd.int IntKind.i64), PK.ro (Kd.int IntKind.i64)], false, [(false, [RC.ro Kd.bool])], S.s_l01TakeOff, []⟩
theorem v_s_l01TakeOff : Valid Go.Proofs.Tryd.prog gl 69 ct_s_l01TakeOff := by
  refine Valid.less (ps := [PK.mu (Kd.int IntKind.i64), PK.bo (Kd.sl (Kd.int IntKind.i64)), PK.ro (Kd.int IntKind.i64), PK.ro (Kd.int IntKind.i64)]) (tup := false) (rs := [(false, [RC.ro Kd.bool])]) (ar := []) (g := P.s_l01TakeOff) (fun k => valid (fx := ⟨⟨Go.Proofs.Tryd.prog, td, [], [], []⟩, k, [(3, [(15, Sp.dat false (Kd.int IntKind.i64)), (14, Sp.dat false (Kd.int IntKind.i64)), (13, Sp.dat true (Kd.sl (Kd.int IntKind.i64))),   (0, Sp.own (0) false (Kd.int IntKind.i64)), (2, Sp.dat false (Kd.int IntKind.i64)), (3, Sp.dat false (Kd.int IntKind.i64)),   (9, Sp.dat false (Kd.int IntKind.i64)), (1, Sp.dat true (Kd.sl (Kd.int IntKind.i64)))])]⟩) (fn := Go.Proofs.Tryd.f69) (c := Go.Proofs.Tryd.f69.body.getD .skip) mixed tdOk (ctsNil _ _ _ _ _) Go.Proofs.Tryd.func69 (by kernel_rfl) (by kernel_rfl) (fun x => ?_)) S.s_l01TakeOff_ok
  kernel_rfl
def ct_s_l01PutBack : Ct := ⟨[PK.mu (Kd.int IntKind.i64), PK.bo (Kd.sl (Kd.int IntKind.i64)), PK.ro (Kd.int IntKind.i64)], true, [], S.s_l01PutBack, []⟩
theorem v_s_l01PutBack : Valid Go.Proofs.Tryd.prog gl 70 ct_s_l01PutBack := by
  refine Valid.less (ps := [PK.mu (Kd.int IntKind.i64), PK.bo (Kd.sl (Kd.int IntKind.i64)), PK.ro (Kd.int IntKind.i64)]) (tup := true) (rs := []) (ar := []) (g := P.s_l01PutBack) (fun k => valid (fx := ⟨⟨Go.Proofs.Tryd.prog, td, [], [], []⟩, k, [(2, [(12, Sp.dat false (Kd.int IntKind.i64)), (11, Sp.dat false (Kd.int IntKind.i64)), (10, Sp.dat true (Kd.sl (Kd.int IntKind.i64))),   (0, Sp.own (0) false (Kd.int IntKind.i64)), (2, Sp.dat false (Kd.int IntKind.i64)), (6, Sp.dat false (Kd.int IntKind.i64)),   (1, Sp.dat true (Kd.sl (Kd.int IntKind.i64)))])]⟩) (fn := Go.Proofs.Tryd.f70) (c := Go.Proofs.Tryd.f70.body.getD .skip) mixed tdOk (ctsNil _ _ _ _ _) Go.Proofs.Tryd.func70 (by kernel_rfl) (by kernel_rfl) (fun x => ?_)) S.s_l01PutBack_ok
  kernel_rfl
def ct_s_l01NatDiv : Ct := ⟨[PK.bo (Kd.sl (Kd.int IntKind.i64)), PK.bo (Kd.sl (Kd.int IntKind.i64))], true, [(false, [RC.ro (Kd.sl (Kd.int IntKind.i64))]), (false, [RC.ro (Kd.sl (Kd.int IntKind.i64))])], S.s_l01NatDiv, []⟩
theorem v_s_l01NatDiv : Valid Go.Proofs.Tryd.prog gl 51 ct_s_l01NatDiv := by
  refine Valid.less (ps := [PK.bo (Kd.sl (Kd.int IntKind.i64)), PK.bo (Kd.sl (Kd.int IntKind.i64))]) (tup := true) (rs := [(false, [RC.ro (Kd.sl (Kd.int IntKind.i64))]), (false, [RC.ro (Kd.sl (Kd.int IntKind.i64))])]) (ar := []) (g := P.s_l01NatDiv) (fun k => valid (fx := ⟨⟨Go.Proofs.Tryd.prog, td, [(50, ct_s_l01Trim), (33, ct_s_l01Nat), (29, ct_s_l01Cmp), (66, ct_s_l01Small), (68, ct_s_l01ShortMul), (67, ct_s_l01ShortDiv), (69, ct_s_l01TakeOff), (70, ct_s_l01PutBack)], [], []⟩, k, [(21, [(19, Sp.dat false (Kd.int IntKind.i64)), (14, Sp.dat false (Kd.sl (Kd.int IntKind.i64))),   (15, Sp.dat false (Kd.int IntKind.i64)), (20, Sp.dat false (Kd.int IntKind.i64)),   (13, Sp.own (624) true (Kd.int IntKind.i64)), (17, Sp.dat false (Kd.int IntKind.i64)),   (16, Sp.own (744) true (Kd.int IntKind.i64)), (12, Sp.dat false (Kd.int IntKind.i64))]), (17, [(17, Sp.dat false (Kd.int IntKind.i64)), (13, Sp.own (624) true (Kd.int IntKind.i64)), (15, Sp.dat false (Kd.int IntKind.i64)),   (14, Sp.dat false (Kd.sl (Kd.int IntKind.i64))), (16, Sp.own (744) true (Kd.int IntKind.i64)),   (12, Sp.dat false (Kd.int IntKind.i64))])]⟩) (fn := Go.Proofs.Tryd.f51) (c := Go.Proofs.Tryd.f51.body.getD .skip) mixed tdOk (ctsCons v_s_l01Trim (ctsCons v_s_l01Nat (ctsCons v_s_l01Cmp (ctsCons v_s_l01Small (ctsCons v_s_l01ShortMul (ctsCons v_s_l01ShortDiv (ctsCons v_s_l01TakeOff (ctsCons v_s_l01PutBack (ctsNil _ _ _ _ _))))))))) Go.Proofs.Tryd.func51 (by kernel_rfl) (by kernel_rfl) (fun x => ?_)) S.s_l01NatDiv_ok
  kernel_rfl
def ct_s_l01Gcd : Ct := ⟨[PK.ro (Kd.sl (Kd.int IntKind.i64)), PK.ro (Kd.sl (Kd.int IntKind.i64))], false, [(false, [RC.ro (Kd.sl (Kd.int IntKind.i64))])], S.s_l01Gcd, []⟩
theorem v_s_l01Gcd : Valid Go.Proofs.Tryd.prog gl 30 ct_s_l01Gcd := by
  refine Valid.less (ps := [PK.ro (Kd.sl (Kd.int IntKind.i64)), PK.ro (Kd.sl (Kd.int IntKind.i64))]) (tup := false) (rs := [(false, [RC.ro (Kd.sl (Kd.int IntKind.i64))])]) (ar := []) (g := P.s_l01Gcd) (fun k => valid (fx := ⟨⟨Go.Proofs.Tryd.prog, td, [(51, ct_s_l01NatDiv)], [], []⟩, k, [(1, [(1, Sp.dat false (Kd.sl (Kd.int IntKind.i64))), (0, Sp.dat false (Kd.sl (Kd.int IntKind.i64)))])]⟩) (fn := Go.Proofs.Tryd.f30) (c := Go.Proofs.Tryd.f30.body.getD .skip) mixed tdOk (ctsCons v_s_l01NatDiv (ctsNil _ _ _ _ _)) Go.Proofs.Tryd.func30 (by kernel_rfl) (by kernel_rfl) (fun x => ?_)) S.s_l01Gcd_ok
  kernel_rfl
def ct_s_l01NatRead : Ct := ⟨[PK.ro Kd.str], false, [(false, [RC.ro (Kd.sl (Kd.int IntKind.i64))])], S.s_l01NatRead, []⟩
theorem v_s_l01NatRead : Valid Go.Proofs.Tryd.prog gl 28 ct_s_l01NatRead := by
  refine Valid.less (ps := [PK.ro Kd.str]) (tup := false) (rs := [(false, [RC.ro (Kd.sl (Kd.int IntKind.i64))])]) (ar := []) (g := P.s_l01NatRead) (fun k => valid (fx := ⟨⟨Go.Proofs.Tryd.prog, td, [(50, ct_s_l01Trim)], [], []⟩, k, [(10, [(7, Sp.dat false (Kd.int IntKind.i64)), (4, Sp.dat false (Kd.int IntKind.i64)), (6, Sp.dat false (Kd.int IntKind.i64)),   (0, Sp.dat false Kd.str), (3, Sp.own (64) true (Kd.int IntKind.i64))]), (3, [(4, Sp.dat false (Kd.int IntKind.i64)), (0, Sp.dat false Kd.str), (3, Sp.own (64) true (Kd.int IntKind.i64))])]⟩) (fn := Go.Proofs.Tryd.f28) (c := Go.Proofs.Tryd.f28.body.getD .skip) mixed tdOk (ctsCons v_s_l01Trim (ctsNil _ _ _ _ _)) Go.Proofs.Tryd.func28 (by kernel_rfl) (by kernel_rfl) (fun x => ?_)) S.s_l01NatRead_ok
  kernel_rfl
def ct_s_l01Digits : Ct := ⟨[PK.ro Kd.str], false, [(false, [RC.ro Kd.bool])], S.s_l01Digits, []⟩
theorem v_s_l01Digits : Valid Go.Proofs.Tryd.prog gl 27 ct_s_l01Digits := by
  refine Valid.less (ps := [PK.ro Kd.str]) (tup := false) (rs := [(false, [RC.ro Kd.bool])]) (ar := []) (g := P.s_l01Digits) (fun k => valid (fx := ⟨⟨Go.Proofs.Tryd.prog, td, [], [], []⟩, k, [(2, [(3, Sp.dat false (Kd.int IntKind.i64)), (0, Sp.dat false Kd.str)])]⟩) (fn := Go.Proofs.Tryd.f27) (c := Go.Proofs.Tryd.f27.body.getD .skip) mixed tdOk (ctsNil _ _ _ _ _) Go.Proofs.Tryd.func27 (by kernel_rfl) (by kernel_rfl) (fun x => ?_)) S.s_l01Digits_ok
  kernel_rfl
def ct_s_l01Parse : Ct := ⟨[PK.ro Kd.str], true, [(true, [RC.ro (Kd.st (Kd.pair Kd.bool (Kd.pair (Kd.sl (Kd.int IntKind.i64)) (Kd.sl (Kd.int IntKind.i64)))))]), (false, [RC.ro Kd.bool])], S.s_l01Parse, []⟩
theorem v_s_l01Parse : Valid Go.Proofs.Tryd.prog gl 13 ct_s_l01Parse := by
  refine Valid.less (ps := [PK.ro Kd.str]) (tup := true) (rs := [(true, [RC.ro (Kd.st (Kd.pair Kd.bool (Kd.pair (Kd.sl (Kd.int IntKind.i64)) (Kd.sl (Kd.int IntKind.i64)))))]), (false, [RC.ro Kd.bool])]) (ar := []) (g := P.s_l01Parse) (fun k => valid (fx := ⟨⟨Go.Proofs.Tryd.prog, td, [(26, ct_s_l01Cut), (29, ct_s_l01Cmp), (30, ct_s_l01Gcd), (28, ct_s_l01NatRead), (27, ct_s_l01Digits)], [], []⟩, k, []⟩) (fn := Go.Proofs.Tryd.f13) (c := Go.Proofs.Tryd.f13.body.getD .skip) mixed tdOk (ctsCons v_s_l01Cut (ctsCons v_s_l01Cmp (ctsCons v_s_l01Gcd (ctsCons v_s_l01NatRead (ctsCons v_s_l01Digits (ctsNil _ _ _ _ _)))))) Go.Proofs.Tryd.func13 (by kernel_rfl) (by kernel_rfl) (fun x => ?_)) S.s_l01Parse_ok
  kernel_rfl
def ct_s_l01Zero : Ct := ⟨[PK.bo (Kd.st (Kd.pair Kd.bool (Kd.pair (Kd.sl (Kd.int IntKind.i64)) (Kd.sl (Kd.int IntKind.i64)))))], false, [(false, [RC.ro Kd.bool])], S.s_l01Zero, []⟩
theorem v_s_l01Zero : Valid Go.Proofs.Tryd.prog gl 24 ct_s_l01Zero := by
  refine Valid.less (ps := [PK.bo (Kd.st (Kd.pair Kd.bool (Kd.pair (Kd.sl (Kd.int IntKind.i64)) (Kd.sl (Kd.int IntKind.i64)))))]) (tup := false) (rs := [(false, [RC.ro Kd.bool])]) (ar := []) (g := P.s_l01Zero) (fun k => valid (fx := ⟨⟨Go.Proofs.Tryd.prog, td, [], [], []⟩, k, []⟩) (fn := Go.Proofs.Tryd.f24) (c := Go.Proofs.Tryd.f24.body.getD .skip) mixed tdOk (ctsNil _ _ _ _ _) Go.Proofs.Tryd.func24 (by kernel_rfl) (by kernel_rfl) (fun x => ?_)) S.s_l01Zero_ok
  kernel_rfl
def ct_s_l01Neg : Ct := ⟨[PK.bo (Kd.st (Kd.pair Kd.bool (Kd.pair (Kd.sl (Kd.int IntKind.i64)) (Kd.sl (Kd.int IntKind.i64)))))], false, [(false, [RC.ro Kd.bool])], S.s_l01Neg, []⟩
theorem v_s_l01Neg : Valid Go.Proofs.Tryd.prog gl 25 ct_s_l01Neg := by
  refine Valid.less (ps := [PK.bo (Kd.st (Kd.pair Kd.bool (Kd.pair (Kd.sl (Kd.int IntKind.i64)) (Kd.sl (Kd.int IntKind.i64)))))]) (tup := false) (rs := [(false, [RC.ro Kd.bool])]) (ar := []) (g := P.s_l01Neg) (fun k => valid (fx := ⟨⟨Go.Proofs.Tryd.prog, td, [], [], []⟩, k, []⟩) (fn := Go.Proofs.Tryd.f25) (c := Go.Proofs.Tryd.f25.body.getD .skip) mixed tdOk (ctsNil _ _ _ _ _) Go.Proofs.Tryd.func25 (by kernel_rfl) (by kernel_rfl) (fun x => ?_)) S.s_l01Neg_ok
  kernel_rfl
def ct_s_l02Rate : Ct := ⟨[PK.ro Kd.str], true, [(true, [RC.ro (Kd.st (Kd.pair Kd.bool (Kd.pair (Kd.sl (Kd.int IntKind.i64)) (Kd.sl (Kd.int IntKind.i64)))))]), (false, [RC.ro Kd.bool])], S.s_l02Rate, []⟩
theorem v_s_l02Rate : Valid Go.Proofs.Tryd.prog gl 12 ct_s_l02Rate := by
  refine Valid.less (ps := [PK.ro Kd.str]) (tup := true) (rs := [(true, [RC.ro (Kd.st (Kd.pair Kd.bool (Kd.pair (Kd.sl (Kd.int IntKind.i64)) (Kd.sl (Kd.int IntKind.i64)))))]), (false, [RC.ro Kd.bool])]) (ar := []) (g := P.s_l02Rate) (fun k => valid (fx := ⟨⟨Go.Proofs.Tryd.prog, td, [(24, ct_s_l01Zero), (25, ct_s_l01Neg), (13, ct_s_l01Parse)], [], []⟩, k, []⟩) (fn := Go.Proofs.Tryd.f12) (c := Go.Proofs.Tryd.f12.body.getD .skip) mixed tdOk (ctsCons v_s_l01Zero (ctsCons v_s_l01Neg (ctsCons v_s_l01Parse (ctsNil _ _ _ _ _)))) Go.Proofs.Tryd.func12 (by kernel_rfl) (by kernel_rfl) (fun x => ?_)) S.s_l02Rate_ok
  kernel_rfl
def ct_s_l01NatAdd : Ct := ⟨[PK.bo (Kd.sl (Kd.int IntKind.i64)), PK.bo (Kd.sl (Kd.int IntKind.i64))], false, [(false, [RC.ro (Kd.sl (Kd.int IntKind.i64))])], S.s_l01NatAdd, []⟩
theorem v_s_l01NatAdd : Valid Go.Proofs.Tryd.prog gl 32 ct_s_l01NatAdd := by
  refine Valid.less (ps := [PK.bo (Kd.sl (Kd.int IntKind.i64)), PK.bo (Kd.sl (Kd.int IntKind.i64))]) (tup := false) (rs := [(false, [RC.ro (Kd.sl (Kd.int IntKind.i64))])]) (ar := []) (g := P.s_l01NatAdd) (fun k => valid (fx := ⟨⟨Go.Proofs.Tryd.prog, td, [(52, ct_s_l01Digit)], [], []⟩, k, [(4, [(7, Sp.dat false (Kd.int IntKind.i64)), (0, Sp.dat true (Kd.sl (Kd.int IntKind.i64))),   (1, Sp.dat true (Kd.sl (Kd.int IntKind.i64))), (6, Sp.dat false (Kd.int IntKind.i64)),   (5, Sp.own (72) true (Kd.int IntKind.i64))])]⟩) (fn := Go.Proofs.Tryd.f32) (c := Go.Proofs.Tryd.f32.body.getD .skip) mixed tdOk (ctsCons v_s_l01Digit (ctsNil _ _ _ _ _)) Go.Proofs.Tryd.func32 (by kernel_rfl) (by kernel_rfl) (fun x => ?_)) S.s_l01NatAdd_ok
  kernel_rfl
def ct_s_l02LossOn : Ct := ⟨[PK.bo (Kd.st (Kd.pair Kd.bool (Kd.pair (Kd.sl (Kd.int IntKind.i64)) (Kd.sl (Kd.int IntKind.i64))))), PK.ro (Kd.int IntKind.i64),   PK.bo (Kd.sl (Kd.int IntKind.i64)), PK.bo (Kd.sl (Kd.int IntKind.i64))], true, [(false, [RC.ro (Kd.sl (Kd.int IntKind.i64))]), (false, [RC.ro (Kd.sl (Kd.int IntKind.i64))])], S.s_l02LossOn, []⟩
theorem v_s_l02LossOn : Valid Go.Proofs.Tryd.prog gl 14 ct_s_l02LossOn := by
  refine Valid.less (ps := [PK.bo (Kd.st (Kd.pair Kd.bool (Kd.pair (Kd.sl (Kd.int IntKind.i64)) (Kd.sl (Kd.int IntKind.i64))))), PK.ro (Kd.int IntKind.i64),   PK.bo (Kd.sl (Kd.int IntKind.i64)), PK.bo (Kd.sl (Kd.int IntKind.i64))]) (tup := true) (rs := [(false, [RC.ro (Kd.sl (Kd.int IntKind.i64))]), (false, [RC.ro (Kd.sl (Kd.int IntKind.i64))])]) (ar := []) (g := P.s_l02LossOn) (fun k => valid (fx := ⟨⟨Go.Proofs.Tryd.prog, td, [(33, ct_s_l01Nat), (31, ct_s_l01NatMul), (32, ct_s_l01NatAdd)], [], []⟩, k, []⟩) (fn := Go.Proofs.Tryd.f14) (c := Go.Proofs.Tryd.f14.body.getD .skip) mixed tdOk (ctsCons v_s_l01Nat (ctsCons v_s_l01NatMul (ctsCons v_s_l01NatAdd (ctsNil _ _ _ _ _)))) Go.Proofs.Tryd.func14 (by kernel_rfl) (by kernel_rfl) (fun x => ?_)) S.s_l02LossOn_ok
  kernel_rfl
def ct_s_LeastServers : Ct := ⟨[PK.ro Kd.str, PK.ro Kd.str], true, [(false, [RC.ro (Kd.int IntKind.i64)]), (false, [RC.ro Kd.bool])], S.s_LeastServers, []⟩
theorem v_s_LeastServers : Valid Go.Proofs.Tryd.prog gl 5 ct_s_LeastServers := by
  refine Valid.less (ps := [PK.ro Kd.str, PK.ro Kd.str]) (tup := true) (rs := [(false, [RC.ro (Kd.int IntKind.i64)]), (false, [RC.ro Kd.bool])]) (ar := []) (g := P.s_LeastServers) (fun k => valid (fx := ⟨⟨Go.Proofs.Tryd.prog, td, [(15, ct_s_l01Less), (13, ct_s_l01Parse), (12, ct_s_l02Rate), (14, ct_s_l02LossOn)], [], []⟩, k, [(7, [(12, Sp.dat false (Kd.int IntKind.i64)),   (6, Sp.var (48) (Kd.st (Kd.pair Kd.bool (Kd.pair (Kd.sl (Kd.int IntKind.i64)) (Kd.sl (Kd.int IntKind.i64)))))),   (10, Sp.dat false (Kd.sl (Kd.int IntKind.i64))), (11, Sp.dat false (Kd.sl (Kd.int IntKind.i64))),   (8, Sp.var (64) (Kd.st (Kd.pair Kd.bool (Kd.pair (Kd.sl (Kd.int IntKind.i64)) (Kd.sl (Kd.int IntKind.i64))))))])]⟩) (fn := Go.Proofs.Tryd.f5) (c := Go.Proofs.Tryd.f5.body.getD .skip) mixed tdOk (ctsCons v_s_l01Less (ctsCons v_s_l01Parse (ctsCons v_s_l02Rate (ctsCons v_s_l02LossOn (ctsNil _ _ _ _ _))))) Go.Proofs.Tryd.func5 (by kernel_rfl) (by kernel_rfl) (fun x => ?_)) S.s_LeastServers_ok
  kernel_rfl
def ct_strings_Cut : Ct := ⟨[PK.ro Kd.str, PK.ro Kd.str], true, [(false, [RC.ro Kd.str]), (false, [RC.ro Kd.str]), (false, [RC.ro Kd.bool])], S.strings_Cut, []⟩
theorem v_strings_Cut (hM : InM gl) : Valid Go.Proofs.Tryd.prog gl 35 ct_strings_Cut := by
  refine told_flat (enters_of Go.Proofs.Tryd.func35 (by kernel_rfl) (by kernel_rfl)) (fun _ _ _ _ _ _ => trivial) (fun w M0 W0 us x γ hl hW ha r hr => ?_)
  obtain ⟨s, b, q⟩ := x
  obtain ⟨u1, _, rfl, ⟨c1, h1, h1'⟩, u2, _, rfl, ⟨c2, h2, h2'⟩, rfl⟩ := ha
  cases h1'; cases h2'; subst h1; subst h2
  unfold S.strings_Cut at hr
  split at hr
  case isFalse => cases hr
  rename_i hc
  cases hr
  obtain ⟨m, hm⟩ := hM
  refine (Go.Proofs.Tryd.strings_Cut s b m w hc (laid_cell hl hm)).mono ?_
  rintro e w' ⟨rfl, n, rfl⟩
  exact ⟨[_, _, _], rfl, ⟨rfl, rfl, rfl, Nat.le_refl _, fun _ _ => rfl⟩, fun M' => ⟨[_], [_, _], rfl, fun _ => rfl, rfl, [_], [_], rfl, fun _ => rfl, rfl, [_], rfl, fun _ => rfl, rfl⟩⟩

def ct_strings_CutPrefix : Ct := ⟨[PK.ro Kd.str, PK.ro Kd.str], true, [(false, [RC.ro Kd.str]), (false, [RC.ro Kd.bool])], S.strings_CutPrefix, []⟩
theorem v_strings_CutPrefix : Valid Go.Proofs.Tryd.prog gl 36 ct_strings_CutPrefix := by
  refine told_flat (enters_of Go.Proofs.Tryd.func36 (by kernel_rfl) (by kernel_rfl)) (fun _ _ _ _ _ _ => trivial) (fun w M0 W0 us x γ hl hW ha r hr => ?_)
  obtain ⟨s, b, q⟩ := x
  obtain ⟨u1, _, rfl, ⟨c1, h1, h1'⟩, u2, _, rfl, ⟨c2, h2, h2'⟩, rfl⟩ := ha
  cases h1'; cases h2'; subst h1; subst h2
  cases hr
  refine (Go.Proofs.Tryd.strings_CutPrefix s b w).mono ?_
  rintro e w' ⟨rfl, rfl⟩
  exact ⟨[_, _], rfl, Below.refl _ _, fun M' => ⟨[_], [_], rfl, fun _ => rfl, rfl, [_], rfl, fun _ => rfl, rfl⟩⟩

def ct_i_nat_trim : Ct := ⟨[PK.ro (Kd.sl (Kd.int IntKind.u32))], false, [(false, [RC.ro (Kd.sl (Kd.int IntKind.u32))])], S.i_nat_trim, []⟩
theorem v_i_nat_trim : Valid Go.Proofs.Tryd.prog gl 58 ct_i_nat_trim := by
  refine Valid.less (ps := [PK.ro (Kd.sl (Kd.int IntKind.u32))]) (tup := false) (rs := [(false, [RC.ro (Kd.sl (Kd.int IntKind.u32))])]) (ar := []) (g := P.i_nat_trim) (fun k => valid (fx := ⟨⟨Go.Proofs.Tryd.prog, td, [], [], []⟩, k, [(1, [(0, Sp.dat false (Kd.sl (Kd.int IntKind.u32)))])]⟩) (fn := Go.Proofs.Tryd.f58) (c := Go.Proofs.Tryd.f58.body.getD .skip) mixed tdOk (ctsNil _ _ _ _ _) Go.Proofs.Tryd.func58 (by kernel_rfl) (by kernel_rfl) (fun x => ?_)) S.i_nat_trim_ok
  kernel_rfl
def ct_i_natOf : Ct := ⟨[PK.ro (Kd.int IntKind.u64)], false, [(false, [RC.ro (Kd.sl (Kd.int IntKind.u32))])], S.i_natOf, []⟩
theorem v_i_natOf : Valid Go.Proofs.Tryd.prog gl 38 ct_i_natOf := by
  refine Valid.less (ps := [PK.ro (Kd.int IntKind.u64)]) (tup := false) (rs := [(false, [RC.ro (Kd.sl (Kd.int IntKind.u32))])]) (ar := []) (g := P.i_natOf) (fun k => valid (fx := ⟨⟨Go.Proofs.Tryd.prog, td, [(58, ct_i_nat_trim)], [], []⟩, k, []⟩) (fn := Go.Proofs.Tryd.f38) (c := Go.Proofs.Tryd.f38.body.getD .skip) mixed tdOk (ctsCons v_i_nat_trim (ctsNil _ _ _ _ _)) Go.Proofs.Tryd.func38 (by kernel_rfl) (by kernel_rfl) (fun x => ?_)) S.i_natOf_ok
  kernel_rfl
def ct_i_nat_cmp : Ct := ⟨[PK.bo (Kd.sl (Kd.int IntKind.u32)), PK.bo (Kd.sl (Kd.int IntKind.u32))], false, [(false, [RC.ro (Kd.int IntKind.i64)])], S.i_nat_cmp, []⟩
theorem v_i_nat_cmp : Valid Go.Proofs.Tryd.prog gl 39 ct_i_nat_cmp := by
  refine Valid.less (ps := [PK.bo (Kd.sl (Kd.int IntKind.u32)), PK.bo (Kd.sl (Kd.int IntKind.u32))]) (tup := false) (rs := [(false, [RC.ro (Kd.int IntKind.i64)])]) (ar := []) (g := P.i_nat_cmp) (fun k => valid (fx := ⟨⟨Go.Proofs.Tryd.prog, td, [], [], []⟩, k, [(6, [(5, Sp.dat false (Kd.int IntKind.i64)), (0, Sp.dat true (Kd.sl (Kd.int IntKind.u32))),   (1, Sp.dat true (Kd.sl (Kd.int IntKind.u32)))])]⟩) (fn := Go.Proofs.Tryd.f39) (c := Go.Proofs.Tryd.f39.body.getD .skip) mixed tdOk (ctsNil _ _ _ _ _) Go.Proofs.Tryd.func39 (by kernel_rfl) (by kernel_rfl) (fun x => ?_)) S.i_nat_cmp_ok
  kernel_rfl
def ct_i_nat_small : Ct := ⟨[PK.bo (Kd.sl (Kd.int IntKind.u32))], true, [(false, [RC.ro (Kd.int IntKind.u64)]), (false, [RC.ro Kd.bool])], S.i_nat_small, []⟩
theorem v_i_nat_small : Valid Go.Proofs.Tryd.prog gl 59 ct_i_nat_small := by
  refine Valid.less (ps := [PK.bo (Kd.sl (Kd.int IntKind.u32))]) (tup := true) (rs := [(false, [RC.ro (Kd.int IntKind.u64)]), (false, [RC.ro Kd.bool])]) (ar := []) (g := P.i_nat_small) (fun k => valid (fx := ⟨⟨Go.Proofs.Tryd.prog, td, [], [], []⟩, k, [(3, [(5, Sp.dat false (Kd.int IntKind.i64)), (0, Sp.dat true (Kd.sl (Kd.int IntKind.u32))), (4, Sp.dat false (Kd.int IntKind.u64))])]⟩) (fn := Go.Proofs.Tryd.f59) (c := Go.Proofs.Tryd.f59.body.getD .skip) mixed tdOk (ctsNil _ _ _ _ _) Go.Proofs.Tryd.func59 (by kernel_rfl) (by kernel_rfl) (fun x => ?_)) S.i_nat_small_ok
  kernel_rfl
def ct_math_bits_LeadingZeros32 : Ct := ⟨[PK.ro (Kd.int IntKind.u32)], false, [(false, [RC.ro (Kd.int IntKind.i64)])], S.math_bits_LeadingZeros32, []⟩
theorem v_math_bits_LeadingZeros32 : Valid Go.Proofs.Tryd.prog gl 76 ct_math_bits_LeadingZeros32 := by
  refine told_flat (enters_of Go.Proofs.Tryd.func76 (by kernel_rfl) (by kernel_rfl)) (fun _ _ _ _ _ _ => trivial) (fun w M0 W0 us x γ hl hW ha r hr => ?_)
  obtain ⟨n, q⟩ := x
  obtain ⟨u1, _, rfl, ⟨c1, h1, h1'⟩, rfl⟩ := ha
  cases h1'; subst h1
  unfold S.math_bits_LeadingZeros32 at hr
  split at hr
  case isFalse => cases hr
  rename_i hc
  cases hr
  refine (Go.Proofs.Tryd.bits_LeadingZeros32 n w hc.1 hc.2).mono ?_
  rintro e w' ⟨rfl, rfl⟩
  exact ⟨[_], rfl, Below.refl _ _, fun M' => ⟨[_], rfl, fun _ => rfl, rfl⟩⟩

def ct_i_nat_divSmall : Ct := ⟨[PK.bo (Kd.sl (Kd.int IntKind.u32)), PK.ro (Kd.int IntKind.u32)], true, [(false, [RC.ro (Kd.sl (Kd.int IntKind.u32))]), (false, [RC.ro (Kd.int IntKind.u32)])], S.i_nat_divSmall, []⟩
theorem v_i_nat_divSmall : Valid Go.Proofs.Tryd.prog gl 75 ct_i_nat_divSmall := by
  refine Valid.less (ps := [PK.bo (Kd.sl (Kd.int IntKind.u32)), PK.ro (Kd.int IntKind.u32)]) (tup := true) (rs := [(false, [RC.ro (Kd.sl (Kd.int IntKind.u32))]), (false, [RC.ro (Kd.int IntKind.u32)])]) (ar := []) (g := P.i_nat_divSmall) (fun k => valid (fx := ⟨⟨Go.Proofs.Tryd.prog, td, [(58, ct_i_nat_trim)], [], []⟩, k, [(3, [(8, Sp.dat false (Kd.int IntKind.i64)), (7, Sp.dat false (Kd.int IntKind.u64)), (0, Sp.dat true (Kd.sl (Kd.int IntKind.u32))),   (6, Sp.own (88) true (Kd.int IntKind.u32)), (1, Sp.dat false (Kd.int IntKind.u32))])]⟩) (fn := Go.Proofs.Tryd.f75) (c := Go.Proofs.Tryd.f75.body.getD .skip) mixed tdOk (ctsCons v_i_nat_trim (ctsNil _ _ _ _ _)) Go.Proofs.Tryd.func75 (by kernel_rfl) (by kernel_rfl) (fun x => ?_)) S.i_nat_divSmall_ok
  kernel_rfl
def ct_i_nat_shifted : Ct := ⟨[PK.bo (Kd.sl (Kd.int IntKind.u32)), PK.ro (Kd.int IntKind.i64)], false, [(false, [RC.own (Kd.int IntKind.u32)])], S.i_nat_shifted, []⟩
theorem v_i_nat_shifted : Valid Go.Proofs.Tryd.prog gl 77 ct_i_nat_shifted := by
  refine Valid.less (ps := [PK.bo (Kd.sl (Kd.int IntKind.u32)), PK.ro (Kd.int IntKind.i64)]) (tup := false) (rs := [(false, [RC.own (Kd.int IntKind.u32)])]) (ar := []) (g := P.i_nat_shifted) (fun k => valid (fx := ⟨⟨Go.Proofs.Tryd.prog, td, [], [], []⟩, k, [(3, [(15, Sp.dat false (Kd.int IntKind.i64)), (14, Sp.dat false (Kd.int IntKind.i64)), (13, Sp.dat true (Kd.sl (Kd.int IntKind.u32))),   (1, Sp.dat false (Kd.int IntKind.i64)), (5, Sp.own (96) true (Kd.int IntKind.u32))])]⟩) (fn := Go.Proofs.Tryd.f77) (c := Go.Proofs.Tryd.f77.body.getD .skip) mixed tdOk (ctsNil _ _ _ _ _) Go.Proofs.Tryd.func77 (by kernel_rfl) (by kernel_rfl) (fun x => ?_)) S.i_nat_shifted_ok
  kernel_rfl
def ct_i_takeAway : Ct := ⟨[PK.mu (Kd.int IntKind.u32), PK.bo (Kd.sl (Kd.int IntKind.u32)), PK.ro (Kd.int IntKind.u64)], false, [(false, [RC.ro Kd.bool])], S.i_takeAway, []⟩
theorem v_i_takeAway : Valid Go.Proofs.Tryd.prog gl 78 ct_i_takeAway := by
  refine Valid.less (ps := [PK.mu (Kd.int IntKind.u32), PK.bo (Kd.sl (Kd.int IntKind.u32)), PK.ro (Kd.int IntKind.u64)]) (tup := false) (rs := [(false, [RC.ro Kd.bool])]) (ar := []) (g := P.i_takeAway) (fun k => valid (fx := ⟨⟨Go.Proofs.Tryd.prog, td, [], [], []⟩, k, [(18, [(59, Sp.dat false (Kd.int IntKind.i64)), (58, Sp.dat false (Kd.int IntKind.i64)), (7, Sp.dat false (Kd.int IntKind.u64)),   (0, Sp.own (0) false (Kd.int IntKind.u32)), (1, Sp.dat true (Kd.sl (Kd.int IntKind.u32)))]), (3, [(14, Sp.dat false (Kd.int IntKind.i64)), (13, Sp.dat false (Kd.int IntKind.i64)), (1, Sp.dat true (Kd.sl (Kd.int IntKind.u32))),   (7, Sp.dat false (Kd.int IntKind.u64)), (2, Sp.dat false (Kd.int IntKind.u64)), (0, Sp.own (0) false (Kd.int IntKind.u32)),   (8, Sp.dat false (Kd.int IntKind.i64))])]⟩) (fn := Go.Proofs.Tryd.f78) (c := Go.Proofs.Tryd.f78.body.getD .skip) mixed tdOk (ctsNil _ _ _ _ _) Go.Proofs.Tryd.func78 (by kernel_rfl) (by kernel_rfl) (fun x => ?_)) S.i_takeAway_ok
  kernel_rfl
def ct_i_nat_div : Ct := ⟨[PK.ro (Kd.sl (Kd.int IntKind.u32)), PK.ro (Kd.sl (Kd.int IntKind.u32))], true, [(false, [RC.ro (Kd.sl (Kd.int IntKind.u32))]), (false, [RC.ro (Kd.sl (Kd.int IntKind.u32))])], S.i_nat_div, []⟩
theorem trimN_snoc (xs : List Int) (x : Int) : trimN (xs ++ [x]) = if x = 0 then trimN xs else xs.length + 1 := by
  unfold trimN
  rw [List.reverse_append]
  by_cases h : x = 0
  · simp [h]
  · simp [h]
theorem trimN_le (xs : List Int) : trimN xs ≤ xs.length := by
  unfold trimN
  have := (List.dropWhile_sublist (fun x : Int => x == 0) (l := xs.reverse)).length_le
  simpa using this
def lenOfV : Value → Nat
  | .slice _ m _ => m
  | _ => 0
set_option maxHeartbeats 800000 in
set_option maxRecDepth 100000 in
theorem trim_calls (b o real : Nat) (xs : List Int) (w : World) (hle : xs.length ≤ real) (hbig : xs.length ≤ 1000000000000) (hc : ∀ (i : Nat) (x : Int), xs[i]? = some x → w.cell? ⟨b, o + i, none⟩ = some (.int .u32 x)) :
    Calls Go.Proofs.Tryd.prog 58 #[.slice (some ⟨b, o, none⟩) xs.length real] w fun e w' => e = .returned (.slice (some ⟨b, o, none⟩) (trimN xs) real) ∧ w' = w := by
  go_enter Go.Proofs.Tryd.func58, Go.Proofs.Tryd.ntmps58
  go_wp2
  go_loopw [0] (fun v wr => ∃ m : Nat, m ≤ xs.length ∧ v = .slice (some ⟨b, o, none⟩) m real ∧ wr = w ∧ trimN (xs.take m) = trimN xs) (fun v _ => lenOfV v)
  case atStart => exact ⟨xs.length, Nat.le_refl _, rfl, rfl, by rw [List.take_length]⟩
  case round =>
    obtain ⟨m, hm, rfl, rfl, ht⟩ := hrel
    by_cases h0 : 0 < m
    · obtain ⟨k, rfl⟩ : ∃ k, m = k + 1 := ⟨m - 1, by omega⟩
      have hx : xs[k]? = some xs[k] := List.getElem?_eq_getElem (by omega)
      have hcx := hc k _ hx
      have hw : wrap64 (((k + 1 : Nat) : Int) - 1) = (k : Int) := by
        have e : ((k + 1 : Nat) : Int) - 1 = (k : Int) := by omega
        rw [e]
        exact IntWalk.wrap64_in _ (by omega)
      have ht' : trimN (xs.take (k + 1)) = if xs[k] = 0 then trimN (xs.take k) else k + 1 := by
        rw [← List.take_append_getElem (show k < xs.length by omega), trimN_snoc]
        have : (xs.take k).length = k := by simp; omega
        rw [this]
      go_wp2
      · have hz : (xs[k] == 0) = true := by assumption
        have hz' : xs[k] = 0 := by simpa using hz
        rw [if_pos hz'] at ht'
        exact ⟨⟨k, by omega, rfl, trivial, by rw [← ht', ht]⟩, Nat.lt_succ_self k⟩
      · have hz : (xs[k] == 0) = false := by assumption
        have hz' : ¬ xs[k] = 0 := by simpa using hz
        rw [if_neg hz'] at ht'
        rw [← ht, ht']
        go_ret
        exact ⟨rfl, rfl⟩
    · have h1 : m = 0 := by omega
      subst h1
      go_wp2
      have h2 : trimN xs = 0 := by rw [← ht]; rfl
      rw [h2]
      go_ret
      exact ⟨rfl, rfl⟩
set_option maxHeartbeats 800000 in
set_option maxRecDepth 100000 in
theorem trim_calls0 (A : Option Addr) (real : Nat) (w : World) :
    Calls Go.Proofs.Tryd.prog 58 #[.slice A 0 real] w fun e w' => e = .returned (.slice A 0 real) ∧ w' = w := by
  go_enter Go.Proofs.Tryd.func58, Go.Proofs.Tryd.ntmps58
  go_wp2
  refine wp_loop_rounds 1 ?_
  rw [rounds_succ]
  go_wp2
  go_ret
  exact ⟨rfl, rfl⟩
theorem shr_trim : ShrOk Go.Proofs.Tryd.prog 58 IntKind.u32 trimN := by
  refine ⟨enters_of Go.Proofs.Tryd.func58 (by kernel_rfl) (by kernel_rfl), fun w u xs A real hbig hsl hno hc => ?_⟩
  obtain ⟨A', rfl, hle, hA⟩ := hsl
  rcases Nat.eq_zero_or_pos real with h0 | h0
  · have h1 : xs = [] := List.eq_nil_of_length_eq_zero (by omega)
    subst h1
    refine (trim_calls0 A' real w).mono ?_
    rintro e w' ⟨rfl, rfl⟩
    exact ⟨rfl, Nat.le_refl _, _, rfl, rfl, A', rfl, Nat.zero_le _, fun h => by omega⟩
  · obtain ⟨b, o, rfl, rfl⟩ := hA h0
    refine (trim_calls b o real xs w hle hbig (hc b o rfl)).mono ?_
    rintro e w' ⟨rfl, rfl⟩
    have := trimN_le xs
    exact ⟨rfl, this, _, rfl, rfl, _, rfl, by omega, fun _ => ⟨b, o, rfl, rfl⟩⟩

theorem v_i_nat_div : Valid Go.Proofs.Tryd.prog gl 60 ct_i_nat_div := by
  refine Valid.less (ps := [PK.ro (Kd.sl (Kd.int IntKind.u32)), PK.ro (Kd.sl (Kd.int IntKind.u32))]) (tup := true) (rs := [(false, [RC.ro (Kd.sl (Kd.int IntKind.u32))]), (false, [RC.ro (Kd.sl (Kd.int IntKind.u32))])]) (ar := []) (g := P.i_nat_div) (fun k => valid (fx := ⟨⟨Go.Proofs.Tryd.prog, td, [(76, ct_math_bits_LeadingZeros32), (58, ct_i_nat_trim), (39, ct_i_nat_cmp), (75, ct_i_nat_divSmall), (77, ct_i_nat_shifted), (78, ct_i_takeAway)], [], [(58, IntKind.u32, trimN)]⟩, k, [(26, [(148, Sp.dat false (Kd.int IntKind.i64)), (147, Sp.dat false (Kd.int IntKind.i64)),   (9, Sp.own (400) true (Kd.int IntKind.u32)), (8, Sp.dat false (Kd.int IntKind.i64)),   (13, Sp.own (592) true (Kd.int IntKind.u32))]), (17, [(17, Sp.dat false (Kd.int IntKind.u64)), (12, Sp.dat false (Kd.int IntKind.u64)), (18, Sp.dat false (Kd.int IntKind.u64)),   (9, Sp.own (400) true (Kd.int IntKind.u32)), (15, Sp.dat false (Kd.int IntKind.i64)), (11, Sp.dat false (Kd.int IntKind.u64)),   (14, Sp.dat false (Kd.int IntKind.i64)), (10, Sp.dat false (Kd.sl (Kd.int IntKind.u32))),   (13, Sp.own (592) true (Kd.int IntKind.u32)), (8, Sp.dat false (Kd.int IntKind.i64))]), (12, [(14, Sp.dat false (Kd.int IntKind.i64)), (10, Sp.dat false (Kd.sl (Kd.int IntKind.u32))),   (9, Sp.own (400) true (Kd.int IntKind.u32)), (11, Sp.dat false (Kd.int IntKind.u64)), (12, Sp.dat false (Kd.int IntKind.u64)),   (13, Sp.own (592) true (Kd.int IntKind.u32)), (8, Sp.dat false (Kd.int IntKind.i64))])]⟩) (fn := Go.Proofs.Tryd.f60) (c := Go.Proofs.Tryd.f60.body.getD .skip) mixed tdOk (ctsCons v_math_bits_LeadingZeros32 (ctsCons v_i_nat_trim (ctsCons v_i_nat_cmp (ctsCons v_i_nat_divSmall (ctsCons v_i_nat_shifted (ctsCons v_i_takeAway (ctsShr shr_trim))))))) Go.Proofs.Tryd.func60 (by kernel_rfl) (by kernel_rfl) (fun x => ?_)) S.i_nat_div_ok
  kernel_rfl
def ct_i_nat_gcd : Ct := ⟨[PK.ro (Kd.sl (Kd.int IntKind.u32)), PK.ro (Kd.sl (Kd.int IntKind.u32))], false, [(false, [RC.ro (Kd.sl (Kd.int IntKind.u32))])], S.i_nat_gcd, []⟩
theorem v_i_nat_gcd : Valid Go.Proofs.Tryd.prog gl 40 ct_i_nat_gcd := by
  refine Valid.less (ps := [PK.ro (Kd.sl (Kd.int IntKind.u32)), PK.ro (Kd.sl (Kd.int IntKind.u32))]) (tup := false) (rs := [(false, [RC.ro (Kd.sl (Kd.int IntKind.u32))])]) (ar := []) (g := P.i_nat_gcd) (fun k => valid (fx := ⟨⟨Go.Proofs.Tryd.prog, td, [(38, ct_i_natOf), (59, ct_i_nat_small), (60, ct_i_nat_div)], [], []⟩, k, [(5, [(7, Sp.dat false (Kd.int IntKind.u64)), (5, Sp.dat false (Kd.int IntKind.u64))]), (1, [(1, Sp.dat false (Kd.sl (Kd.int IntKind.u32))), (0, Sp.dat false (Kd.sl (Kd.int IntKind.u32)))])]⟩) (fn := Go.Proofs.Tryd.f40) (c := Go.Proofs.Tryd.f40.body.getD .skip) mixed tdOk (ctsCons v_i_natOf (ctsCons v_i_nat_small (ctsCons v_i_nat_div (ctsNil _ _ _ _ _)))) Go.Proofs.Tryd.func40 (by kernel_rfl) (by kernel_rfl) (fun x => ?_)) S.i_nat_gcd_ok
  kernel_rfl
def ct_strconv_ParseUint : Ct := ⟨[PK.ro Kd.str, PK.ro (Kd.int IntKind.i64), PK.ro (Kd.int IntKind.i64)], true, [(false, [RC.ro (Kd.int IntKind.u64)]), (false, [RC.ro Kd.er])], S.strconv_ParseUint, []⟩
theorem v_strconv_ParseUint (hR : InR gl) (hS : InS gl) : Valid Go.Proofs.Tryd.prog gl 55 ct_strconv_ParseUint := by
  refine told_flat (enters_of Go.Proofs.Tryd.func55 (by kernel_rfl) (by kernel_rfl)) (fun _ _ _ _ _ _ => trivial) (fun w M0 W0 us x γ hl hW ha r hr => ?_)
  obtain ⟨s, b, z, q⟩ := x
  obtain ⟨u1, _, rfl, ⟨c1, h1, h1'⟩, u2, _, rfl, ⟨c2, h2, h2'⟩, u3, _, rfl, ⟨c3, h3, h3'⟩, rfl⟩ := ha
  cases h1'; cases h2'; cases h3'; subst h1; subst h2; subst h3
  unfold S.strconv_ParseUint at hr
  split at hr
  case isFalse => cases hr
  rename_i hc
  obtain ⟨hb, hz, hs⟩ := hc
  dsimp only at hb hz hs hr
  subst hb; subst hz
  obtain ⟨t1, p1, hS⟩ := hS
  obtain ⟨t2, p2, hR⟩ := hR
  have v1 : w.var? Go.Proofs.Tryd.prog "strconv.ErrSyntax" = some #[.iface t1 p1] := laid_var hl hS (by kernel_rfl)
  have v2 : w.var? Go.Proofs.Tryd.prog "strconv.ErrRange" = some #[.iface t2 p2] := laid_var hl hR (by kernel_rfl)
  split at hr
  · rename_i v hv
    cases hr
    refine (Go.Proofs.Tryd.strconv_ParseUint_10_at64_ok s (by omega) v hv w).mono ?_
    rintro e w' ⟨rfl, hw⟩
    refine ⟨[_, _], rfl, ?_, fun M' => ⟨[_], [_], rfl, fun _ => rfl, rfl, [_], rfl, fun _ => rfl, _, rfl, rfl, rfl⟩⟩
    rcases hw with rfl | ⟨t, rfl⟩
    · exact Below.refl _ _
    · exact ⟨rfl, rfl, rfl, by rw [Lib.bytesWorld_size]; omega, fun k hk => Lib.bytesWorld_at_old _ _ _ k (by omega)⟩
  · rename_i hv
    cases hr
    refine (Go.Proofs.Tryd.strconv_ParseUint_10_at64_syntax_var s hs hv t1 p1 w v1).mono ?_
    rintro e w' ⟨N, rfl, _, _, hbl⟩
    exact ⟨[_, _], rfl, hbl, fun M' => ⟨[_], [_], rfl, fun _ => rfl, rfl, [_], rfl, fun _ => rfl, _, rfl, rfl, _, _, rfl⟩⟩
  · rename_i hv
    cases hr
    refine (Go.Proofs.Tryd.strconv_ParseUint_10_at64_range_var s hs hv t2 p2 w v2).mono ?_
    rintro e w' ⟨N, rfl, _, _, hbl⟩
    exact ⟨[_, _], rfl, hbl, fun M' => ⟨[_], [_], rfl, fun _ => rfl, rfl, [_], rfl, fun _ => rfl, _, rfl, rfl, _, _, rfl⟩⟩

def ct_i_nat_add : Ct := ⟨[PK.bo (Kd.sl (Kd.int IntKind.u32)), PK.bo (Kd.sl (Kd.int IntKind.u32))], false, [(false, [RC.ro (Kd.sl (Kd.int IntKind.u32))])], S.i_nat_add, []⟩
theorem v_i_nat_add : Valid Go.Proofs.Tryd.prog gl 57 ct_i_nat_add := by
  refine Valid.less (ps := [PK.bo (Kd.sl (Kd.int IntKind.u32)), PK.bo (Kd.sl (Kd.int IntKind.u32))]) (tup := false) (rs := [(false, [RC.ro (Kd.sl (Kd.int IntKind.u32))])]) (ar := []) (g := P.i_nat_add) (fun k => valid (fx := ⟨⟨Go.Proofs.Tryd.prog, td, [(58, ct_i_nat_trim)], [], []⟩, k, [(5, [(21, Sp.dat false (Kd.int IntKind.i64)), (20, Sp.dat false (Kd.int IntKind.i64)), (6, Sp.dat false (Kd.int IntKind.u64)),   (0, Sp.dat true (Kd.sl (Kd.int IntKind.u32))), (1, Sp.dat true (Kd.sl (Kd.int IntKind.u32))),   (5, Sp.own (144) true (Kd.int IntKind.u32))])]⟩) (fn := Go.Proofs.Tryd.f57) (c := Go.Proofs.Tryd.f57.body.getD .skip) mixed tdOk (ctsCons v_i_nat_trim (ctsNil _ _ _ _ _)) Go.Proofs.Tryd.func57 (by kernel_rfl) (by kernel_rfl) (fun x => ?_)) S.i_nat_add_ok
  kernel_rfl
def ct_i_nat_mul : Ct := ⟨[PK.bo (Kd.sl (Kd.int IntKind.u32)), PK.bo (Kd.sl (Kd.int IntKind.u32))], false, [(false, [RC.ro (Kd.sl (Kd.int IntKind.u32))])], S.i_nat_mul, []⟩
theorem v_i_nat_mul : Valid Go.Proofs.Tryd.prog gl 56 ct_i_nat_mul := by
  refine Valid.less (ps := [PK.bo (Kd.sl (Kd.int IntKind.u32)), PK.bo (Kd.sl (Kd.int IntKind.u32))]) (tup := false) (rs := [(false, [RC.ro (Kd.sl (Kd.int IntKind.u32))])]) (ar := []) (g := P.i_nat_mul) (fun k => valid (fx := ⟨⟨Go.Proofs.Tryd.prog, td, [(58, ct_i_nat_trim)], [], []⟩, k, [(7, [(26, Sp.dat false (Kd.int IntKind.i64)), (25, Sp.dat false (Kd.int IntKind.i64)), (24, Sp.dat true (Kd.sl (Kd.int IntKind.u32))),   (8, Sp.dat false (Kd.int IntKind.u64)), (7, Sp.dat false (Kd.int IntKind.u32)), (5, Sp.own (128) true (Kd.int IntKind.u32)),   (6, Sp.dat false (Kd.int IntKind.i64)), (1, Sp.dat true (Kd.sl (Kd.int IntKind.u32))), (19, Sp.dat false (Kd.int IntKind.i64)),   (18, Sp.dat false (Kd.int IntKind.i64)), (17, Sp.dat true (Kd.sl (Kd.int IntKind.u32)))]), (3, [(19, Sp.dat false (Kd.int IntKind.i64)), (18, Sp.dat false (Kd.int IntKind.i64)), (17, Sp.dat true (Kd.sl (Kd.int IntKind.u32))),   (1, Sp.dat true (Kd.sl (Kd.int IntKind.u32))), (5, Sp.own (128) true (Kd.int IntKind.u32))])]⟩) (fn := Go.Proofs.Tryd.f56) (c := Go.Proofs.Tryd.f56.body.getD .skip) mixed tdOk (ctsCons v_i_nat_trim (ctsNil _ _ _ _ _)) Go.Proofs.Tryd.func56 (by kernel_rfl) (by kernel_rfl) (fun x => ?_)) S.i_nat_mul_ok
  kernel_rfl
def ct_i_readNat : Ct := ⟨[PK.ro Kd.str], true, [(false, [RC.ro (Kd.sl (Kd.int IntKind.u32))]), (false, [RC.ro Kd.bool])], S.i_readNat, []⟩
theorem v_i_readNat (hR : InR gl) (hS : InS gl) : Valid Go.Proofs.Tryd.prog gl 37 ct_i_readNat := by
  refine Valid.less (ps := [PK.ro Kd.str]) (tup := true) (rs := [(false, [RC.ro (Kd.sl (Kd.int IntKind.u32))]), (false, [RC.ro Kd.bool])]) (ar := []) (g := P.i_readNat) (fun k => valid (fx := ⟨⟨Go.Proofs.Tryd.prog, td, [(55, ct_strconv_ParseUint), (38, ct_i_natOf), (57, ct_i_nat_add), (56, ct_i_nat_mul)], [], []⟩, k, [(17, [(59, Sp.dat false (Kd.int IntKind.i64)), (58, Sp.dat false (Kd.int IntKind.i64)), (9, Sp.dat false (Kd.int IntKind.u64)),   (4, Sp.dat false (Kd.sl (Kd.int IntKind.u32))), (7, Sp.dat false (Kd.int IntKind.u64)), (0, Sp.dat false Kd.str),   (6, Sp.dat false (Kd.int IntKind.i64))]), (10, [(0, Sp.dat false Kd.str), (4, Sp.dat false (Kd.sl (Kd.int IntKind.u32)))]), (5, [(30, Sp.dat false (Kd.int IntKind.i64)), (29, Sp.dat false (Kd.int IntKind.i64)), (0, Sp.dat false Kd.str),   (4, Sp.dat false (Kd.sl (Kd.int IntKind.u32)))])]⟩) (fn := Go.Proofs.Tryd.f37) (c := Go.Proofs.Tryd.f37.body.getD .skip) mixed tdOk (ctsCons (v_strconv_ParseUint hR hS) (ctsCons v_i_natOf (ctsCons v_i_nat_add (ctsCons v_i_nat_mul (ctsNil _ _ _ _ _))))) Go.Proofs.Tryd.func37 (by kernel_rfl) (by kernel_rfl) (fun x => ?_)) S.i_readNat_ok
  kernel_rfl
def ct_i_readRat : Ct := ⟨[PK.ro Kd.str], true, [(true, [RC.ro (Kd.st (Kd.pair Kd.bool (Kd.pair (Kd.sl (Kd.int IntKind.u32)) (Kd.sl (Kd.int IntKind.u32)))))]), (false, [RC.ro Kd.bool])], S.i_readRat, []⟩
theorem v_i_readRat (hM : InM gl) (hR : InR gl) (hS : InS gl) : Valid Go.Proofs.Tryd.prog gl 17 ct_i_readRat := by
  refine Valid.less (ps := [PK.ro Kd.str]) (tup := true) (rs := [(true, [RC.ro (Kd.st (Kd.pair Kd.bool (Kd.pair (Kd.sl (Kd.int IntKind.u32)) (Kd.sl (Kd.int IntKind.u32)))))]), (false, [RC.ro Kd.bool])]) (ar := []) (g := P.i_readRat) (fun k => valid (fx := ⟨⟨Go.Proofs.Tryd.prog, td, [(35, ct_strings_Cut), (36, ct_strings_CutPrefix), (38, ct_i_natOf), (39, ct_i_nat_cmp), (40, ct_i_nat_gcd), (37, ct_i_readNat)], [], []⟩, k, []⟩) (fn := Go.Proofs.Tryd.f17) (c := Go.Proofs.Tryd.f17.body.getD .skip) mixed tdOk (ctsCons (v_strings_Cut hM) (ctsCons v_strings_CutPrefix (ctsCons v_i_natOf (ctsCons v_i_nat_cmp (ctsCons v_i_nat_gcd (ctsCons (v_i_readNat hR hS) (ctsNil _ _ _ _ _))))))) Go.Proofs.Tryd.func17 (by kernel_rfl) (by kernel_rfl) (fun x => ?_)) S.i_readRat_ok
  kernel_rfl
def ct_i_rat_sign : Ct := ⟨[PK.bo (Kd.st (Kd.pair Kd.bool (Kd.pair (Kd.sl (Kd.int IntKind.u32)) (Kd.sl (Kd.int IntKind.u32)))))], false, [(false, [RC.ro (Kd.int IntKind.i64)])], S.i_rat_sign, []⟩
theorem v_i_rat_sign : Valid Go.Proofs.Tryd.prog gl 34 ct_i_rat_sign := by
  refine Valid.less (ps := [PK.bo (Kd.st (Kd.pair Kd.bool (Kd.pair (Kd.sl (Kd.int IntKind.u32)) (Kd.sl (Kd.int IntKind.u32)))))]) (tup := false) (rs := [(false, [RC.ro (Kd.int IntKind.i64)])]) (ar := []) (g := P.i_rat_sign) (fun k => valid (fx := ⟨⟨Go.Proofs.Tryd.prog, td, [], [], []⟩, k, []⟩) (fn := Go.Proofs.Tryd.f34) (c := Go.Proofs.Tryd.f34.body.getD .skip) mixed tdOk (ctsNil _ _ _ _ _) Go.Proofs.Tryd.func34 (by kernel_rfl) (by kernel_rfl) (fun x => ?_)) S.i_rat_sign_ok
  kernel_rfl
def ct_i_positive : Ct := ⟨[PK.ro Kd.str], true, [(true, [RC.ro (Kd.st (Kd.pair Kd.bool (Kd.pair (Kd.sl (Kd.int IntKind.u32)) (Kd.sl (Kd.int IntKind.u32)))))]), (false, [RC.ro Kd.bool])], S.i_positive, []⟩
theorem v_i_positive (hM : InM gl) (hR : InR gl) (hS : InS gl) : Valid Go.Proofs.Tryd.prog gl 16 ct_i_positive := by
  refine Valid.less (ps := [PK.ro Kd.str]) (tup := true) (rs := [(true, [RC.ro (Kd.st (Kd.pair Kd.bool (Kd.pair (Kd.sl (Kd.int IntKind.u32)) (Kd.sl (Kd.int IntKind.u32)))))]), (false, [RC.ro Kd.bool])]) (ar := []) (g := P.i_positive) (fun k => valid (fx := ⟨⟨Go.Proofs.Tryd.prog, td, [(34, ct_i_rat_sign), (17, ct_i_readRat)], [], []⟩, k, []⟩) (fn := Go.Proofs.Tryd.f16) (c := Go.Proofs.Tryd.f16.body.getD .skip) mixed tdOk (ctsCons v_i_rat_sign (ctsCons (v_i_readRat hM hR hS) (ctsNil _ _ _ _ _))) Go.Proofs.Tryd.func16 (by kernel_rfl) (by kernel_rfl) (fun x => ?_)) S.i_positive_ok
  kernel_rfl
def ct_i_rat_cmp : Ct := ⟨[PK.bo (Kd.st (Kd.pair Kd.bool (Kd.pair (Kd.sl (Kd.int IntKind.u32)) (Kd.sl (Kd.int IntKind.u32))))),   PK.bo (Kd.st (Kd.pair Kd.bool (Kd.pair (Kd.sl (Kd.int IntKind.u32)) (Kd.sl (Kd.int IntKind.u32)))))], false, [(false, [RC.ro (Kd.int IntKind.i64)])], S.i_rat_cmp, []⟩
theorem v_i_rat_cmp : Valid Go.Proofs.Tryd.prog gl 42 ct_i_rat_cmp := by
  refine Valid.less (ps := [PK.bo (Kd.st (Kd.pair Kd.bool (Kd.pair (Kd.sl (Kd.int IntKind.u32)) (Kd.sl (Kd.int IntKind.u32))))),   PK.bo (Kd.st (Kd.pair Kd.bool (Kd.pair (Kd.sl (Kd.int IntKind.u32)) (Kd.sl (Kd.int IntKind.u32)))))]) (tup := false) (rs := [(false, [RC.ro (Kd.int IntKind.i64)])]) (ar := []) (g := P.i_rat_cmp) (fun k => valid (fx := ⟨⟨Go.Proofs.Tryd.prog, td, [(39, ct_i_nat_cmp), (56, ct_i_nat_mul), (34, ct_i_rat_sign)], [], []⟩, k, []⟩) (fn := Go.Proofs.Tryd.f42) (c := Go.Proofs.Tryd.f42.body.getD .skip) mixed tdOk (ctsCons v_i_nat_cmp (ctsCons v_i_nat_mul (ctsCons v_i_rat_sign (ctsNil _ _ _ _ _)))) Go.Proofs.Tryd.func42 (by kernel_rfl) (by kernel_rfl) (fun x => ?_)) S.i_rat_cmp_ok
  kernel_rfl
def ct_i_magnitude : Ct := ⟨[PK.ro (Kd.int IntKind.i64)], false, [(false, [RC.ro (Kd.int IntKind.u64)])], S.i_magnitude, []⟩
theorem v_i_magnitude : Valid Go.Proofs.Tryd.prog gl 79 ct_i_magnitude := by
  refine Valid.less (ps := [PK.ro (Kd.int IntKind.i64)]) (tup := false) (rs := [(false, [RC.ro (Kd.int IntKind.u64)])]) (ar := []) (g := P.i_magnitude) (fun k => valid (fx := ⟨⟨Go.Proofs.Tryd.prog, td, [], [], []⟩, k, []⟩) (fn := Go.Proofs.Tryd.f79) (c := Go.Proofs.Tryd.f79.body.getD .skip) mixed tdOk (ctsNil _ _ _ _ _) Go.Proofs.Tryd.func79 (by kernel_rfl) (by kernel_rfl) (fun x => ?_)) S.i_magnitude_ok
  kernel_rfl
def ct_i_whole : Ct := ⟨[PK.ro (Kd.int IntKind.i64)], false, [(true, [RC.ro (Kd.st (Kd.pair Kd.bool (Kd.pair (Kd.sl (Kd.int IntKind.u32)) (Kd.sl (Kd.int IntKind.u32)))))])], S.i_whole, []⟩
theorem v_i_whole : Valid Go.Proofs.Tryd.prog gl 61 ct_i_whole := by
  refine Valid.less (ps := [PK.ro (Kd.int IntKind.i64)]) (tup := false) (rs := [(true, [RC.ro (Kd.st (Kd.pair Kd.bool (Kd.pair (Kd.sl (Kd.int IntKind.u32)) (Kd.sl (Kd.int IntKind.u32)))))])]) (ar := []) (g := P.i_whole) (fun k => valid (fx := ⟨⟨Go.Proofs.Tryd.prog, td, [(79, ct_i_magnitude), (38, ct_i_natOf)], [], []⟩, k, []⟩) (fn := Go.Proofs.Tryd.f61) (c := Go.Proofs.Tryd.f61.body.getD .skip) mixed tdOk (ctsCons v_i_magnitude (ctsCons v_i_natOf (ctsNil _ _ _ _ _))) Go.Proofs.Tryd.func61 (by kernel_rfl) (by kernel_rfl) (fun x => ?_)) S.i_whole_ok
  kernel_rfl
def ct_i_nat_sub : Ct := ⟨[PK.bo (Kd.sl (Kd.int IntKind.u32)), PK.bo (Kd.sl (Kd.int IntKind.u32))], false, [(false, [RC.ro (Kd.sl (Kd.int IntKind.u32))])], S.i_nat_sub, []⟩
theorem v_i_nat_sub : Valid Go.Proofs.Tryd.prog gl 81 ct_i_nat_sub := by
  refine Valid.less (ps := [PK.bo (Kd.sl (Kd.int IntKind.u32)), PK.bo (Kd.sl (Kd.int IntKind.u32))]) (tup := false) (rs := [(false, [RC.ro (Kd.sl (Kd.int IntKind.u32))])]) (ar := []) (g := P.i_nat_sub) (fun k => valid (fx := ⟨⟨Go.Proofs.Tryd.prog, td, [(58, ct_i_nat_trim)], [], []⟩, k, [(3, [(14, Sp.dat false (Kd.int IntKind.i64)), (13, Sp.dat false (Kd.int IntKind.i64)), (0, Sp.dat true (Kd.sl (Kd.int IntKind.u32))),   (6, Sp.dat false (Kd.int IntKind.i64)), (1, Sp.dat true (Kd.sl (Kd.int IntKind.u32))),   (5, Sp.own (88) true (Kd.int IntKind.u32))])]⟩) (fn := Go.Proofs.Tryd.f81) (c := Go.Proofs.Tryd.f81.body.getD .skip) mixed tdOk (ctsCons v_i_nat_trim (ctsNil _ _ _ _ _)) Go.Proofs.Tryd.func81 (by kernel_rfl) (by kernel_rfl) (fun x => ?_)) S.i_nat_sub_ok
  kernel_rfl
def ct_i_lowest : Ct := ⟨[PK.ro Kd.bool, PK.ro (Kd.sl (Kd.int IntKind.u32)), PK.ro (Kd.sl (Kd.int IntKind.u32))], false, [(true, [RC.ro (Kd.st (Kd.pair Kd.bool (Kd.pair (Kd.sl (Kd.int IntKind.u32)) (Kd.sl (Kd.int IntKind.u32)))))])], S.i_lowest, []⟩
theorem v_i_lowest : Valid Go.Proofs.Tryd.prog gl 80 ct_i_lowest := by
  refine Valid.less (ps := [PK.ro Kd.bool, PK.ro (Kd.sl (Kd.int IntKind.u32)), PK.ro (Kd.sl (Kd.int IntKind.u32))]) (tup := false) (rs := [(true, [RC.ro (Kd.st (Kd.pair Kd.bool (Kd.pair (Kd.sl (Kd.int IntKind.u32)) (Kd.sl (Kd.int IntKind.u32)))))])]) (ar := []) (g := P.i_lowest) (fun k => valid (fx := ⟨⟨Go.Proofs.Tryd.prog, td, [(38, ct_i_natOf), (60, ct_i_nat_div), (40, ct_i_nat_gcd)], [], []⟩, k, []⟩) (fn := Go.Proofs.Tryd.f80) (c := Go.Proofs.Tryd.f80.body.getD .skip) mixed tdOk (ctsCons v_i_natOf (ctsCons v_i_nat_div (ctsCons v_i_nat_gcd (ctsNil _ _ _ _ _)))) Go.Proofs.Tryd.func80 (by kernel_rfl) (by kernel_rfl) (fun x => ?_)) S.i_lowest_ok
  kernel_rfl
def ct_i_rat_add : Ct := ⟨[PK.ro (Kd.st (Kd.pair Kd.bool (Kd.pair (Kd.sl (Kd.int IntKind.u32)) (Kd.sl (Kd.int IntKind.u32))))),   PK.ro (Kd.st (Kd.pair Kd.bool (Kd.pair (Kd.sl (Kd.int IntKind.u32)) (Kd.sl (Kd.int IntKind.u32)))))], false, [(true, [RC.ro (Kd.st (Kd.pair Kd.bool (Kd.pair (Kd.sl (Kd.int IntKind.u32)) (Kd.sl (Kd.int IntKind.u32)))))])], S.i_rat_add, []⟩
theorem v_i_rat_add : Valid Go.Proofs.Tryd.prog gl 64 ct_i_rat_add := by
  refine Valid.less (ps := [PK.ro (Kd.st (Kd.pair Kd.bool (Kd.pair (Kd.sl (Kd.int IntKind.u32)) (Kd.sl (Kd.int IntKind.u32))))),   PK.ro (Kd.st (Kd.pair Kd.bool (Kd.pair (Kd.sl (Kd.int IntKind.u32)) (Kd.sl (Kd.int IntKind.u32)))))]) (tup := false) (rs := [(true, [RC.ro (Kd.st (Kd.pair Kd.bool (Kd.pair (Kd.sl (Kd.int IntKind.u32)) (Kd.sl (Kd.int IntKind.u32)))))])]) (ar := []) (g := P.i_rat_add) (fun k => valid (fx := ⟨⟨Go.Proofs.Tryd.prog, td, [(39, ct_i_nat_cmp), (81, ct_i_nat_sub), (57, ct_i_nat_add), (56, ct_i_nat_mul), (80, ct_i_lowest), (34, ct_i_rat_sign)], [], []⟩, k, []⟩) (fn := Go.Proofs.Tryd.f64) (c := Go.Proofs.Tryd.f64.body.getD .skip) mixed tdOk (ctsCons v_i_nat_cmp (ctsCons v_i_nat_sub (ctsCons v_i_nat_add (ctsCons v_i_nat_mul (ctsCons v_i_lowest (ctsCons v_i_rat_sign (ctsNil _ _ _ _ _))))))) Go.Proofs.Tryd.func64 (by kernel_rfl) (by kernel_rfl) (fun x => ?_)) S.i_rat_add_ok
  kernel_rfl
def ct_i_rat_mul : Ct := ⟨[PK.ro (Kd.st (Kd.pair Kd.bool (Kd.pair (Kd.sl (Kd.int IntKind.u32)) (Kd.sl (Kd.int IntKind.u32))))),   PK.ro (Kd.st (Kd.pair Kd.bool (Kd.pair (Kd.sl (Kd.int IntKind.u32)) (Kd.sl (Kd.int IntKind.u32)))))], false, [(true, [RC.ro (Kd.st (Kd.pair Kd.bool (Kd.pair (Kd.sl (Kd.int IntKind.u32)) (Kd.sl (Kd.int IntKind.u32)))))])], S.i_rat_mul, []⟩
theorem v_i_rat_mul : Valid Go.Proofs.Tryd.prog gl 62 ct_i_rat_mul := by
  refine Valid.less (ps := [PK.ro (Kd.st (Kd.pair Kd.bool (Kd.pair (Kd.sl (Kd.int IntKind.u32)) (Kd.sl (Kd.int IntKind.u32))))),   PK.ro (Kd.st (Kd.pair Kd.bool (Kd.pair (Kd.sl (Kd.int IntKind.u32)) (Kd.sl (Kd.int IntKind.u32)))))]) (tup := false) (rs := [(true, [RC.ro (Kd.st (Kd.pair Kd.bool (Kd.pair (Kd.sl (Kd.int IntKind.u32)) (Kd.sl (Kd.int IntKind.u32)))))])]) (ar := []) (g := P.i_rat_mul) (fun k => valid (fx := ⟨⟨Go.Proofs.Tryd.prog, td, [(56, ct_i_nat_mul), (80, ct_i_lowest), (61, ct_i_whole), (34, ct_i_rat_sign)], [], []⟩, k, []⟩) (fn := Go.Proofs.Tryd.f62) (c := Go.Proofs.Tryd.f62.body.getD .skip) mixed tdOk (ctsCons v_i_nat_mul (ctsCons v_i_lowest (ctsCons v_i_whole (ctsCons v_i_rat_sign (ctsNil _ _ _ _ _))))) Go.Proofs.Tryd.func62 (by kernel_rfl) (by kernel_rfl) (fun x => ?_)) S.i_rat_mul_ok
  kernel_rfl
def ct_i_rat_over : Ct := ⟨[PK.ro (Kd.st (Kd.pair Kd.bool (Kd.pair (Kd.sl (Kd.int IntKind.u32)) (Kd.sl (Kd.int IntKind.u32))))),   PK.ro (Kd.st (Kd.pair Kd.bool (Kd.pair (Kd.sl (Kd.int IntKind.u32)) (Kd.sl (Kd.int IntKind.u32)))))], false, [(true, [RC.ro (Kd.st (Kd.pair Kd.bool (Kd.pair (Kd.sl (Kd.int IntKind.u32)) (Kd.sl (Kd.int IntKind.u32)))))])], S.i_rat_over, []⟩
theorem v_i_rat_over : Valid Go.Proofs.Tryd.prog gl 63 ct_i_rat_over := by
  refine Valid.less (ps := [PK.ro (Kd.st (Kd.pair Kd.bool (Kd.pair (Kd.sl (Kd.int IntKind.u32)) (Kd.sl (Kd.int IntKind.u32))))),   PK.ro (Kd.st (Kd.pair Kd.bool (Kd.pair (Kd.sl (Kd.int IntKind.u32)) (Kd.sl (Kd.int IntKind.u32)))))]) (tup := false) (rs := [(true, [RC.ro (Kd.st (Kd.pair Kd.bool (Kd.pair (Kd.sl (Kd.int IntKind.u32)) (Kd.sl (Kd.int IntKind.u32)))))])]) (ar := []) (g := P.i_rat_over) (fun k => valid (fx := ⟨⟨Go.Proofs.Tryd.prog, td, [(62, ct_i_rat_mul)], [], []⟩, k, []⟩) (fn := Go.Proofs.Tryd.f63) (c := Go.Proofs.Tryd.f63.body.getD .skip) mixed tdOk (ctsCons v_i_rat_mul (ctsNil _ _ _ _ _)) Go.Proofs.Tryd.func63 (by kernel_rfl) (by kernel_rfl) (fun x => ?_)) S.i_rat_over_ok
  kernel_rfl
def ct_i_losses : Ct := ⟨[PK.ro (Kd.st (Kd.pair Kd.bool (Kd.pair (Kd.sl (Kd.int IntKind.u32)) (Kd.sl (Kd.int IntKind.u32))))), PK.ro (Kd.int IntKind.i64)], false, [(false, [RC.ro (Kd.sl (Kd.st (Kd.pair Kd.bool (Kd.pair (Kd.sl (Kd.int IntKind.u32)) (Kd.sl (Kd.int IntKind.u32))))))])], S.i_losses, []⟩
theorem v_i_losses : Valid Go.Proofs.Tryd.prog gl 41 ct_i_losses := by
  refine Valid.less (ps := [PK.ro (Kd.st (Kd.pair Kd.bool (Kd.pair (Kd.sl (Kd.int IntKind.u32)) (Kd.sl (Kd.int IntKind.u32))))), PK.ro (Kd.int IntKind.i64)]) (tup := false) (rs := [(false, [RC.ro (Kd.sl (Kd.st (Kd.pair Kd.bool (Kd.pair (Kd.sl (Kd.int IntKind.u32)) (Kd.sl (Kd.int IntKind.u32))))))])]) (ar := []) (g := P.i_losses) (fun k => valid (fx := ⟨⟨Go.Proofs.Tryd.prog, td, [(61, ct_i_whole), (64, ct_i_rat_add), (62, ct_i_rat_mul), (63, ct_i_rat_over)], [], []⟩, k, [(3, [(6, Sp.dat false (Kd.int IntKind.i64)), (1, Sp.dat false (Kd.int IntKind.i64)),   (2, Sp.var (16) (Kd.st (Kd.pair Kd.bool (Kd.pair (Kd.sl (Kd.int IntKind.u32)) (Kd.sl (Kd.int IntKind.u32)))))),   (5, Sp.own (72) true (Kd.st (Kd.pair Kd.bool (Kd.pair (Kd.sl (Kd.int IntKind.u32)) (Kd.sl (Kd.int IntKind.u32))))))])]⟩) (fn := Go.Proofs.Tryd.f41) (c := Go.Proofs.Tryd.f41.body.getD .skip) mixed tdOk (ctsCons v_i_whole (ctsCons v_i_rat_add (ctsCons v_i_rat_mul (ctsCons v_i_rat_over (ctsNil _ _ _ _ _))))) Go.Proofs.Tryd.func41 (by kernel_rfl) (by kernel_rfl) (fun x => ?_)) S.i_losses_ok
  kernel_rfl
def ct_i_leastServers : Ct := ⟨[PK.ro (Kd.st (Kd.pair Kd.bool (Kd.pair (Kd.sl (Kd.int IntKind.u32)) (Kd.sl (Kd.int IntKind.u32))))),   PK.ro (Kd.st (Kd.pair Kd.bool (Kd.pair (Kd.sl (Kd.int IntKind.u32)) (Kd.sl (Kd.int IntKind.u32)))))], true, [(false, [RC.ro (Kd.int IntKind.i64)]), (false, [RC.ro Kd.bool])], S.i_leastServers, []⟩
theorem v_i_leastServers : Valid Go.Proofs.Tryd.prog gl 18 ct_i_leastServers := by
  refine Valid.less (ps := [PK.ro (Kd.st (Kd.pair Kd.bool (Kd.pair (Kd.sl (Kd.int IntKind.u32)) (Kd.sl (Kd.int IntKind.u32))))),   PK.ro (Kd.st (Kd.pair Kd.bool (Kd.pair (Kd.sl (Kd.int IntKind.u32)) (Kd.sl (Kd.int IntKind.u32)))))]) (tup := true) (rs := [(false, [RC.ro (Kd.int IntKind.i64)]), (false, [RC.ro Kd.bool])]) (ar := []) (g := P.i_leastServers) (fun k => valid (fx := ⟨⟨Go.Proofs.Tryd.prog, td, [(42, ct_i_rat_cmp), (41, ct_i_losses)], [], []⟩, k, [(2, [(11, Sp.dat false (Kd.int IntKind.i64)), (10, Sp.dat false (Kd.int IntKind.i64)),   (9, Sp.dat false (Kd.sl (Kd.st (Kd.pair Kd.bool (Kd.pair (Kd.sl (Kd.int IntKind.u32)) (Kd.sl (Kd.int IntKind.u32))))))),   (3, Sp.var (24) (Kd.st (Kd.pair Kd.bool (Kd.pair (Kd.sl (Kd.int IntKind.u32)) (Kd.sl (Kd.int IntKind.u32))))))])]⟩) (fn := Go.Proofs.Tryd.f18) (c := Go.Proofs.Tryd.f18.body.getD .skip) mixed tdOk (ctsCons v_i_rat_cmp (ctsCons v_i_losses (ctsNil _ _ _ _ _))) Go.Proofs.Tryd.func18 (by kernel_rfl) (by kernel_rfl) (fun x => ?_)) S.i_leastServers_ok
  kernel_rfl
def ct_i_LeastServers : Ct := ⟨[PK.ro Kd.str, PK.ro Kd.str], true, [(false, [RC.ro (Kd.int IntKind.i64)]), (false, [RC.ro Kd.bool])], S.i_LeastServers, []⟩
theorem v_i_LeastServers (hM : InM gl) (hR : InR gl) (hS : InS gl) : Valid Go.Proofs.Tryd.prog gl 6 ct_i_LeastServers := by
  refine Valid.less (ps := [PK.ro Kd.str, PK.ro Kd.str]) (tup := true) (rs := [(false, [RC.ro (Kd.int IntKind.i64)]), (false, [RC.ro Kd.bool])]) (ar := []) (g := P.i_LeastServers) (fun k => valid (fx := ⟨⟨Go.Proofs.Tryd.prog, td, [(17, ct_i_readRat), (16, ct_i_positive), (18, ct_i_leastServers)], [], []⟩, k, []⟩) (fn := Go.Proofs.Tryd.f6) (c := Go.Proofs.Tryd.f6.body.getD .skip) mixed tdOk (ctsCons (v_i_readRat hM hR hS) (ctsCons (v_i_positive hM hR hS) (ctsCons v_i_leastServers (ctsNil _ _ _ _ _)))) Go.Proofs.Tryd.func6 (by kernel_rfl) (by kernel_rfl) (fun x => ?_)) S.i_LeastServers_ok
  kernel_rfl
def ct_l_FnExactLeastServers : Ct := ⟨[PK.ro Kd.str, PK.ro Kd.str], false, [(false, [RC.ro Kd.bool])], S.l_FnExactLeastServers, []⟩
theorem v_l_FnExactLeastServers (hM : InM gl) (hR : InR gl) (hS : InS gl) : Valid Go.Proofs.Tryd.prog gl 3 ct_l_FnExactLeastServers := by
  refine Valid.less (ps := [PK.ro Kd.str, PK.ro Kd.str]) (tup := false) (rs := [(false, [RC.ro Kd.bool])]) (ar := []) (g := P.l_FnExactLeastServers) (fun k => valid (fx := ⟨⟨Go.Proofs.Tryd.prog, td, [(5, ct_s_LeastServers), (6, ct_i_LeastServers)], [], []⟩, k, []⟩) (fn := Go.Proofs.Tryd.f3) (c := Go.Proofs.Tryd.f3.body.getD .skip) mixed tdOk (ctsCons v_s_LeastServers (ctsCons (v_i_LeastServers hM hR hS) (ctsNil _ _ _ _ _))) Go.Proofs.Tryd.func3 (by kernel_rfl) (by kernel_rfl) (fun x => ?_)) S.l_FnExactLeastServers_ok
  kernel_rfl
end Go.Cm.LnLeastServers
end
