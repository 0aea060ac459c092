import Derived.Test.YtlnejaehiangnaaDoorPlValidLine
import Derived.Test.YtlnejaehiangnaaDoorChecked
import Derived.Test.YtlnejaehiangnaaDoorL3dShelf
import Derived.WalkKit
import Derived.BigCall
import Derived.BigGuard
import Derived.Lib.ItoaMem
import Derived.Lib.AppendIntMem
set_option linter.unusedVariables false
set_option maxRecDepth 100000
noncomputable section
namespace Go.Cm.LnValidLine
open Go.RowKit
variable {gl : List (Nat × List Value)}
theorem td2 : TdOk Go.Proofs.Tryd.prog 2 ⟨Kd.int IntKind.i64, 8, false, 0, []⟩ := .of (by kernel_rfl) (.inr (by kernel_rfl)) rfl (Go.Proofs.Tryd.underlying2)
theorem td3 : TdOk Go.Proofs.Tryd.prog 3 ⟨Kd.int IntKind.i64, 8, false, 0, []⟩ := .of (by kernel_rfl) (.inr (by kernel_rfl)) rfl (Go.Proofs.Tryd.underlying3)
theorem td4 : TdOk Go.Proofs.Tryd.prog 4 ⟨Kd.bool, 1, false, 0, []⟩ := .of (by kernel_rfl) (.inr (by kernel_rfl)) rfl (Go.Proofs.Tryd.underlying4)
theorem td5 : TdOk Go.Proofs.Tryd.prog 5 ⟨Kd.int IntKind.u8, 1, false, 0, []⟩ := .of (by kernel_rfl) (.inr (by kernel_rfl)) rfl (Go.Proofs.Tryd.underlying5)
theorem td9 : TdOk Go.Proofs.Tryd.prog 9 ⟨Kd.str, 16, false, 0, []⟩ := .of (by kernel_rfl) (.inr (by kernel_rfl)) rfl (Go.Proofs.Tryd.underlying9)
theorem td25 : TdOk Go.Proofs.Tryd.prog 25 ⟨Kd.sl Kd.str, 24, false, 9, []⟩ := .of (by kernel_rfl) (.inr (by kernel_rfl)) rfl (Go.Proofs.Tryd.underlying25)
theorem td27 : TdOk Go.Proofs.Tryd.prog 27 ⟨Kd.st (Kd.pair (Kd.sl Kd.str) (Kd.sl Kd.str)), 48, true, 0, [(0, 25), (1, 25)]⟩ := .of (by kernel_rfl) (.inr (by kernel_rfl)) rfl (⟨_, Go.Proofs.Tryd.underlying27, by kernel_rfl, by kernel_rfl⟩)
theorem td30 : TdOk Go.Proofs.Tryd.prog 30 ⟨Kd.st (Kd.pair (Kd.sl Kd.str) (Kd.sl Kd.str)), 48, true, 0, [(0, 25), (1, 25)]⟩ := .of (by kernel_rfl) (.inr (by kernel_rfl)) rfl (⟨_, Go.Proofs.Tryd.underlying30, by kernel_rfl, by kernel_rfl⟩)
theorem td34 : TdOk Go.Proofs.Tryd.prog 34 ⟨Kd.sl (Kd.int IntKind.i64), 24, false, 2, []⟩ := .of (by kernel_rfl) (.inr (by kernel_rfl)) rfl (Go.Proofs.Tryd.underlying34)
theorem td36 : TdOk Go.Proofs.Tryd.prog 36 ⟨Kd.st (Kd.pair Kd.bool (Kd.pair (Kd.sl (Kd.int IntKind.i64)) (Kd.sl (Kd.int IntKind.i64)))), 56, true, 0, [(0, 4), (1, 34), (2, 34)]⟩ := .of (by kernel_rfl) (.inr (by kernel_rfl)) rfl (⟨_, Go.Proofs.Tryd.underlying36, by kernel_rfl, by kernel_rfl⟩)
theorem td43 : TdOk Go.Proofs.Tryd.prog 43 ⟨Kd.sl (Kd.int IntKind.u32), 24, false, 98, []⟩ := .of (by kernel_rfl) (.inr (by kernel_rfl)) rfl (Go.Proofs.Tryd.underlying43)
theorem td45 : TdOk Go.Proofs.Tryd.prog 45 ⟨Kd.st (Kd.pair Kd.bool (Kd.pair (Kd.sl (Kd.int IntKind.u32)) (Kd.sl (Kd.int IntKind.u32)))), 56, true, 0, [(0, 4), (1, 43), (2, 43)]⟩ := .of (by kernel_rfl) (.inr (by kernel_rfl)) rfl (⟨_, Go.Proofs.Tryd.underlying45, by kernel_rfl, by kernel_rfl⟩)
theorem td50 : TdOk Go.Proofs.Tryd.prog 50 ⟨Kd.sl (Kd.st (Kd.pair Kd.bool (Kd.pair (Kd.sl (Kd.int IntKind.i64)) (Kd.sl (Kd.int IntKind.i64))))), 24, false, 36, []⟩ := .of (by kernel_rfl) (.inr (by kernel_rfl)) rfl (Go.Proofs.Tryd.underlying50)
theorem td52 : TdOk Go.Proofs.Tryd.prog 52 ⟨Kd.st   (Kd.pair (Kd.sl (Kd.st (Kd.pair Kd.bool (Kd.pair (Kd.sl (Kd.int IntKind.i64)) (Kd.sl (Kd.int IntKind.i64))))))     (Kd.sl (Kd.st (Kd.pair Kd.bool (Kd.pair (Kd.sl (Kd.int IntKind.i64)) (Kd.sl (Kd.int IntKind.i64))))))), 48, true, 0, [(0, 50), (1, 50)]⟩ := .of (by kernel_rfl) (.inr (by kernel_rfl)) rfl (⟨_, Go.Proofs.Tryd.underlying52, by kernel_rfl, by kernel_rfl⟩)
theorem td55 : TdOk Go.Proofs.Tryd.prog 55 ⟨Kd.pt (Kd.st (Kd.pair (Kd.sl Kd.str) (Kd.sl Kd.str))), 8, false, 0, []⟩ := .of (by kernel_rfl) (.inl rfl) rfl (⟨_, Go.Proofs.Tryd.underlying55⟩)
theorem td57 : TdOk Go.Proofs.Tryd.prog 57 ⟨Kd.sl (Kd.st (Kd.pair Kd.bool (Kd.pair (Kd.sl (Kd.int IntKind.u32)) (Kd.sl (Kd.int IntKind.u32))))), 24, false, 45, []⟩ := .of (by kernel_rfl) (.inr (by kernel_rfl)) rfl (Go.Proofs.Tryd.underlying57)
theorem td59 : TdOk Go.Proofs.Tryd.prog 59 ⟨Kd.st   (Kd.pair (Kd.sl (Kd.st (Kd.pair Kd.bool (Kd.pair (Kd.sl (Kd.int IntKind.u32)) (Kd.sl (Kd.int IntKind.u32))))))     (Kd.sl (Kd.st (Kd.pair Kd.bool (Kd.pair (Kd.sl (Kd.int IntKind.u32)) (Kd.sl (Kd.int IntKind.u32))))))), 48, true, 0, [(0, 57), (1, 57)]⟩ := .of (by kernel_rfl) (.inr (by kernel_rfl)) rfl (⟨_, Go.Proofs.Tryd.underlying59, by kernel_rfl, by kernel_rfl⟩)
theorem td78 : TdOk Go.Proofs.Tryd.prog 78 ⟨Kd.int IntKind.u64, 8, false, 0, []⟩ := .of (by kernel_rfl) (.inr (by kernel_rfl)) rfl (Go.Proofs.Tryd.underlying78)
theorem td95 : TdOk Go.Proofs.Tryd.prog 95 ⟨Kd.er, 16, false, 0, []⟩ := .of (by kernel_rfl) (.inr (by kernel_rfl)) rfl (⟨_, Go.Proofs.Tryd.underlying95⟩)
theorem td98 : TdOk Go.Proofs.Tryd.prog 98 ⟨Kd.int IntKind.u32, 4, false, 0, []⟩ := .of (by kernel_rfl) (.inr (by kernel_rfl)) rfl (Go.Proofs.Tryd.underlying98)
theorem td99 : TdOk Go.Proofs.Tryd.prog 99 ⟨Kd.int IntKind.u64, 8, false, 0, []⟩ := .of (by kernel_rfl) (.inr (by kernel_rfl)) rfl (Go.Proofs.Tryd.underlying99)
def td : List (Nat × Td) := [(2, ⟨Kd.int IntKind.i64, 8, false, 0, []⟩), (3, ⟨Kd.int IntKind.i64, 8, false, 0, []⟩), (4, ⟨Kd.bool, 1, false, 0, []⟩), (5, ⟨Kd.int IntKind.u8, 1, false, 0, []⟩), (9, ⟨Kd.str, 16, false, 0, []⟩), (25, ⟨Kd.sl Kd.str, 24, false, 9, []⟩), (27, ⟨Kd.st (Kd.pair (Kd.sl Kd.str) (Kd.sl Kd.str)), 48, true, 0, [(0, 25), (1, 25)]⟩), (30, ⟨Kd.st (Kd.pair (Kd.sl Kd.str) (Kd.sl Kd.str)), 48, true, 0, [(0, 25), (1, 25)]⟩), (34, ⟨Kd.sl (Kd.int IntKind.i64), 24, false, 2, []⟩), (36, ⟨Kd.st (Kd.pair Kd.bool (Kd.pair (Kd.sl (Kd.int IntKind.i64)) (Kd.sl (Kd.int IntKind.i64)))), 56, true, 0, [(0, 4), (1, 34), (2, 34)]⟩), (43, ⟨Kd.sl (Kd.int IntKind.u32), 24, false, 98, []⟩), (45, ⟨Kd.st (Kd.pair Kd.bool (Kd.pair (Kd.sl (Kd.int IntKind.u32)) (Kd.sl (Kd.int IntKind.u32)))), 56, true, 0, [(0, 4), (1, 43), (2, 43)]⟩), (50, ⟨Kd.sl (Kd.st (Kd.pair Kd.bool (Kd.pair (Kd.sl (Kd.int IntKind.i64)) (Kd.sl (Kd.int IntKind.i64))))), 24, false, 36, []⟩), (52, ⟨Kd.st   (Kd.pair (Kd.sl (Kd.st (Kd.pair Kd.bool (Kd.pair (Kd.sl (Kd.int IntKind.i64)) (Kd.sl (Kd.int IntKind.i64))))))     (Kd.sl (Kd.st (Kd.pair Kd.bool (Kd.pair (Kd.sl (Kd.int IntKind.i64)) (Kd.sl (Kd.int IntKind.i64))))))), 48, true, 0, [(0, 50), (1, 50)]⟩), (55, ⟨Kd.pt (Kd.st (Kd.pair (Kd.sl Kd.str) (Kd.sl Kd.str))), 8, false, 0, []⟩), (57, ⟨Kd.sl (Kd.st (Kd.pair Kd.bool (Kd.pair (Kd.sl (Kd.int IntKind.u32)) (Kd.sl (Kd.int IntKind.u32))))), 24, false, 45, []⟩), (59, ⟨Kd.st   (Kd.pair (Kd.sl (Kd.st (Kd.pair Kd.bool (Kd.pair (Kd.sl (Kd.int IntKind.u32)) (Kd.sl (Kd.int IntKind.u32))))))     (Kd.sl (Kd.st (Kd.pair Kd.bool (Kd.pair (Kd.sl (Kd.int IntKind.u32)) (Kd.sl (Kd.int IntKind.u32))))))), 48, true, 0, [(0, 57), (1, 57)]⟩), (78, ⟨Kd.int IntKind.u64, 8, false, 0, []⟩), (95, ⟨Kd.er, 16, false, 0, []⟩), (98, ⟨Kd.int IntKind.u32, 4, false, 0, []⟩), (99, ⟨Kd.int IntKind.u64, 8, false, 0, []⟩)]
theorem tdOk : TdsOk ⟨Go.Proofs.Tryd.prog, td, [], [], []⟩ Go.Proofs.Tryd.prog := tdsCons td2 (tdsCons td3 (tdsCons td4 (tdsCons td5 (tdsCons td9 (tdsCons td25 (tdsCons td27 (tdsCons td30 (tdsCons td34 (tdsCons td36 (tdsCons td43 (tdsCons td45 (tdsCons td50 (tdsCons td52 (tdsCons td55 (tdsCons td57 (tdsCons td59 (tdsCons td78 (tdsCons td95 (tdsCons td98 (tdsCons td99 (tdsNil _ _ _ _)))))))))))))))))))))
theorem mixed : Go.Proofs.Tryd.prog.follows .mixedOrders = true := by kernel_rfl
/-- Package-level variables that are laid. -/
def InP (gl : List (Nat × List Value)) : Prop := (3, Go.Lib.pow10Tab.map fun z => Value.int .u64 z) ∈ gl
def InM (gl : List (Nat × List Value)) : Prop := ∃ m, (0, [Value.int .i64 m]) ∈ gl
def InS (gl : List (Nat × List Value)) : Prop := ∃ t p, (1, [Value.iface t p]) ∈ gl
def InR (gl : List (Nat × List Value)) : Prop := ∃ t p, (2, [Value.iface t p]) ∈ gl
def ct_l_szStringS : Ct := ⟨[PK.bo (Kd.sl Kd.str), PK.ro (Kd.int IntKind.i64)], false, [(false, [RC.ro (Kd.int IntKind.i64)])], S.l_szStringS, []⟩
theorem v_l_szStringS : Valid Go.Proofs.Tryd.prog gl 19 ct_l_szStringS := by
  refine Valid.less (ps := [PK.bo (Kd.sl Kd.str), PK.ro (Kd.int IntKind.i64)]) (tup := false) (rs := [(false, [RC.ro (Kd.int IntKind.i64)])]) (ar := []) (g := P.l_szStringS) (fun k => valid (fx := ⟨⟨Go.Proofs.Tryd.prog, td, [], [], []⟩, k, [(5, [(5, Sp.dat false (Kd.int IntKind.i64)), (0, Sp.dat true (Kd.sl Kd.str)), (1, Sp.dat false (Kd.int IntKind.i64))])]⟩) (fn := Go.Proofs.Tryd.f19) (c := Go.Proofs.Tryd.f19.body.getD .skip) mixed tdOk (ctsNil _ _ _ _ _) Go.Proofs.Tryd.func19 (by kernel_rfl) (by kernel_rfl) (fun x => ?_)) S.l_szStringS_ok
  kernel_rfl
def ct_l_szLine : Ct := ⟨[PK.bo (Kd.st (Kd.pair (Kd.sl Kd.str) (Kd.sl Kd.str))), PK.ro (Kd.int IntKind.i64)], false, [(false, [RC.ro (Kd.int IntKind.i64)])], S.l_szLine, []⟩
theorem v_l_szLine : Valid Go.Proofs.Tryd.prog gl 7 ct_l_szLine := by
  refine Valid.less (ps := [PK.bo (Kd.st (Kd.pair (Kd.sl Kd.str) (Kd.sl Kd.str))), PK.ro (Kd.int IntKind.i64)]) (tup := false) (rs := [(false, [RC.ro (Kd.int IntKind.i64)])]) (ar := []) (g := P.l_szLine) (fun k => valid (fx := ⟨⟨Go.Proofs.Tryd.prog, td, [(19, ct_l_szStringS)], [], []⟩, k, []⟩) (fn := Go.Proofs.Tryd.f7) (c := Go.Proofs.Tryd.f7.body.getD .skip) mixed tdOk (ctsCons v_l_szStringS (ctsNil _ _ _ _ _)) Go.Proofs.Tryd.func7 (by kernel_rfl) (by kernel_rfl) (fun x => ?_)) S.l_szLine_ok
  kernel_rfl
def ct_l_roomBehind : Ct := ⟨[PK.ro (Kd.int IntKind.i64)], false, [(false, [RC.ro (Kd.int IntKind.i64)])], S.l_roomBehind, []⟩
theorem v_l_roomBehind : Valid Go.Proofs.Tryd.prog gl 45 ct_l_roomBehind := by
  refine Valid.less (ps := [PK.ro (Kd.int IntKind.i64)]) (tup := false) (rs := [(false, [RC.ro (Kd.int IntKind.i64)])]) (ar := []) (g := P.l_roomBehind) (fun k => valid (fx := ⟨⟨Go.Proofs.Tryd.prog, td, [], [], []⟩, k, []⟩) (fn := Go.Proofs.Tryd.f45) (c := Go.Proofs.Tryd.f45.body.getD .skip) mixed tdOk (ctsNil _ _ _ _ _) Go.Proofs.Tryd.func45 (by kernel_rfl) (by kernel_rfl) (fun x => ?_)) S.l_roomBehind_ok
  kernel_rfl
def ct_l_toStringS : Ct := ⟨[PK.bo (Kd.sl Kd.str), PK.ro Kd.bool], false, [(false, [RC.ro (Kd.sv Kd.str)])], S.l_toStringS, []⟩
theorem v_l_toStringS : Valid Go.Proofs.Tryd.prog gl 21 ct_l_toStringS := by
  refine Valid.less (ps := [PK.bo (Kd.sl Kd.str), PK.ro Kd.bool]) (tup := false) (rs := [(false, [RC.ro (Kd.sv Kd.str)])]) (ar := []) (g := P.l_toStringS) (fun k => valid (fx := ⟨⟨Go.Proofs.Tryd.prog, td, [(45, ct_l_roomBehind)], [], []⟩, k, [(9, [(7, Sp.dat false (Kd.int IntKind.i64)), (5, Sp.own (160) true Kd.str), (0, Sp.dat true (Kd.sl Kd.str))]), (5, [(6, Sp.dat false (Kd.int IntKind.i64)), (0, Sp.dat true (Kd.sl Kd.str)), (5, Sp.own (160) true Kd.str)])]⟩) (fn := Go.Proofs.Tryd.f21) (c := Go.Proofs.Tryd.f21.body.getD .skip) mixed tdOk (ctsCons v_l_roomBehind (ctsNil _ _ _ _ _)) Go.Proofs.Tryd.func21 (by kernel_rfl) (by kernel_rfl) (fun x => ?_)) S.l_toStringS_ok
  kernel_rfl
def ct_l_toLine : Ct := ⟨[PK.bo (Kd.st (Kd.pair (Kd.sl Kd.str) (Kd.sl Kd.str))), PK.ro Kd.bool], false, [(true, [RC.ro (Kd.st (Kd.pair (Kd.sv Kd.str) (Kd.sv Kd.str)))])], S.l_toLine, []⟩
theorem v_l_toLine : Valid Go.Proofs.Tryd.prog gl 9 ct_l_toLine := by
  refine Valid.less (ps := [PK.bo (Kd.st (Kd.pair (Kd.sl Kd.str) (Kd.sl Kd.str))), PK.ro Kd.bool]) (tup := false) (rs := [(true, [RC.ro (Kd.st (Kd.pair (Kd.sv Kd.str) (Kd.sv Kd.str)))])]) (ar := []) (g := P.l_toLine) (fun k => valid (fx := ⟨⟨Go.Proofs.Tryd.prog, td, [(21, ct_l_toStringS)], [], []⟩, k, []⟩) (fn := Go.Proofs.Tryd.f9) (c := Go.Proofs.Tryd.f9.body.getD .skip) mixed tdOk (ctsCons v_l_toStringS (ctsNil _ _ _ _ _)) Go.Proofs.Tryd.func9 (by kernel_rfl) (by kernel_rfl) (fun x => ?_)) S.l_toLine_ok
  kernel_rfl
def ct_l_eqStringS : Ct := ⟨[PK.bo (Kd.sl Kd.str), PK.bo (Kd.sl Kd.str)], false, [(false, [RC.ro Kd.bool])], S.l_eqStringS, []⟩
theorem v_l_eqStringS : Valid Go.Proofs.Tryd.prog gl 49 ct_l_eqStringS := by
  refine Valid.less (ps := [PK.bo (Kd.sl Kd.str), PK.bo (Kd.sl Kd.str)]) (tup := false) (rs := [(false, [RC.ro Kd.bool])]) (ar := []) (g := P.l_eqStringS) (fun k => valid (fx := ⟨⟨Go.Proofs.Tryd.prog, td, [], [], []⟩, k, [(4, [(5, Sp.dat false (Kd.int IntKind.i64)), (0, Sp.dat true (Kd.sl Kd.str)), (1, Sp.dat true (Kd.sl Kd.str))])]⟩) (fn := Go.Proofs.Tryd.f49) (c := Go.Proofs.Tryd.f49.body.getD .skip) mixed tdOk (ctsNil _ _ _ _ _) Go.Proofs.Tryd.func49 (by kernel_rfl) (by kernel_rfl) (fun x => ?_)) S.l_eqStringS_ok
  kernel_rfl
def ct_l_intactStringS : Ct := ⟨[PK.bo (Kd.sv Kd.str), PK.bo (Kd.sv Kd.str)], false, [(false, [RC.ro Kd.bool])], S.l_intactStringS, []⟩
theorem v_l_intactStringS : Valid Go.Proofs.Tryd.prog gl 23 ct_l_intactStringS := by
  refine Valid.less (ps := [PK.bo (Kd.sv Kd.str), PK.bo (Kd.sv Kd.str)]) (tup := false) (rs := [(false, [RC.ro Kd.bool])]) (ar := []) (g := P.l_intactStringS) (fun k => valid (fx := ⟨⟨Go.Proofs.Tryd.prog, td, [(45, ct_l_roomBehind), (49, ct_l_eqStringS)], [], []⟩, k, []⟩) (fn := Go.Proofs.Tryd.f23) (c := Go.Proofs.Tryd.f23.body.getD .skip) mixed tdOk (ctsCons v_l_roomBehind (ctsCons v_l_eqStringS (ctsNil _ _ _ _ _))) Go.Proofs.Tryd.func23 (by kernel_rfl) (by kernel_rfl) (fun x => ?_)) S.l_intactStringS_ok
  kernel_rfl
def ct_l_intactLine : Ct := ⟨[PK.bo (Kd.st (Kd.pair (Kd.sv Kd.str) (Kd.sv Kd.str))), PK.bo (Kd.st (Kd.pair (Kd.sv Kd.str) (Kd.sv Kd.str)))], false, [(false, [RC.ro Kd.bool])], S.l_intactLine, []⟩
theorem v_l_intactLine : Valid Go.Proofs.Tryd.prog gl 11 ct_l_intactLine := by
  refine Valid.less (ps := [PK.bo (Kd.st (Kd.pair (Kd.sv Kd.str) (Kd.sv Kd.str))), PK.bo (Kd.st (Kd.pair (Kd.sv Kd.str) (Kd.sv Kd.str)))]) (tup := false) (rs := [(false, [RC.ro Kd.bool])]) (ar := []) (g := P.l_intactLine) (fun k => valid (fx := ⟨⟨Go.Proofs.Tryd.prog, td, [(23, ct_l_intactStringS)], [], []⟩, k, []⟩) (fn := Go.Proofs.Tryd.f11) (c := Go.Proofs.Tryd.f11.body.getD .skip) mixed tdOk (ctsCons v_l_intactStringS (ctsNil _ _ _ _ _)) Go.Proofs.Tryd.func11 (by kernel_rfl) (by kernel_rfl) (fun x => ?_)) S.l_intactLine_ok
  kernel_rfl
def ct_s_l01Cut : Ct := ⟨[PK.ro Kd.str, PK.ro (Kd.int IntKind.u8)], false, [(false, [RC.own Kd.str])], S.s_l01Cut, []⟩
theorem v_s_l01Cut : Valid Go.Proofs.Tryd.prog gl 26 ct_s_l01Cut := by
  refine Valid.less (ps := [PK.ro Kd.str, PK.ro (Kd.int IntKind.u8)]) (tup := false) (rs := [(false, [RC.own Kd.str])]) (ar := []) (g := P.s_l01Cut) (fun k => valid (fx := ⟨⟨Go.Proofs.Tryd.prog, td, [], [], []⟩, k, [(4, [(7, Sp.dat false (Kd.int IntKind.i64)), (0, Sp.dat false Kd.str), (1, Sp.dat false (Kd.int IntKind.u8)),   (5, Sp.own (64) true Kd.str), (6, Sp.dat false (Kd.int IntKind.i64))])]⟩) (fn := Go.Proofs.Tryd.f26) (c := Go.Proofs.Tryd.f26.body.getD .skip) mixed tdOk (ctsNil _ _ _ _ _) Go.Proofs.Tryd.func26 (by kernel_rfl) (by kernel_rfl) (fun x => ?_)) S.s_l01Cut_ok
  kernel_rfl
def ct_s_l01Cmp : Ct := ⟨[PK.bo (Kd.sl (Kd.int IntKind.i64)), PK.bo (Kd.sl (Kd.int IntKind.i64))], false, [(false, [RC.ro (Kd.int IntKind.i64)])], S.s_l01Cmp, []⟩
theorem v_s_l01Cmp : Valid Go.Proofs.Tryd.prog gl 29 ct_s_l01Cmp := by
  refine Valid.less (ps := [PK.bo (Kd.sl (Kd.int IntKind.i64)), PK.bo (Kd.sl (Kd.int IntKind.i64))]) (tup := false) (rs := [(false, [RC.ro (Kd.int IntKind.i64)])]) (ar := []) (g := P.s_l01Cmp) (fun k => valid (fx := ⟨⟨Go.Proofs.Tryd.prog, td, [], [], []⟩, k, [(6, [(5, Sp.dat false (Kd.int IntKind.i64)), (0, Sp.dat true (Kd.sl (Kd.int IntKind.i64))),   (1, Sp.dat true (Kd.sl (Kd.int IntKind.i64)))])]⟩) (fn := Go.Proofs.Tryd.f29) (c := Go.Proofs.Tryd.f29.body.getD .skip) mixed tdOk (ctsNil _ _ _ _ _) Go.Proofs.Tryd.func29 (by kernel_rfl) (by kernel_rfl) (fun x => ?_)) S.s_l01Cmp_ok
  kernel_rfl
def ct_s_l01Trim : Ct := ⟨[PK.ro (Kd.sl (Kd.int IntKind.i64))], false, [(false, [RC.ro (Kd.sl (Kd.int IntKind.i64))])], S.s_l01Trim, []⟩
theorem v_s_l01Trim : Valid Go.Proofs.Tryd.prog gl 50 ct_s_l01Trim := by
  refine Valid.less (ps := [PK.ro (Kd.sl (Kd.int IntKind.i64))]) (tup := false) (rs := [(false, [RC.ro (Kd.sl (Kd.int IntKind.i64))])]) (ar := []) (g := P.s_l01Trim) (fun k => valid (fx := ⟨⟨Go.Proofs.Tryd.prog, td, [], [], []⟩, k, [(1, [(0, Sp.dat false (Kd.sl (Kd.int IntKind.i64)))])]⟩) (fn := Go.Proofs.Tryd.f50) (c := Go.Proofs.Tryd.f50.body.getD .skip) mixed tdOk (ctsNil _ _ _ _ _) Go.Proofs.Tryd.func50 (by kernel_rfl) (by kernel_rfl) (fun x => ?_)) S.s_l01Trim_ok
  kernel_rfl
def ct_s_l01Nat : Ct := ⟨[PK.ro (Kd.int IntKind.i64)], false, [(false, [RC.ro (Kd.sl (Kd.int IntKind.i64))])], S.s_l01Nat, []⟩
theorem v_s_l01Nat : Valid Go.Proofs.Tryd.prog gl 33 ct_s_l01Nat := by
  refine Valid.less (ps := [PK.ro (Kd.int IntKind.i64)]) (tup := false) (rs := [(false, [RC.ro (Kd.sl (Kd.int IntKind.i64))])]) (ar := []) (g := P.s_l01Nat) (fun k => valid (fx := ⟨⟨Go.Proofs.Tryd.prog, td, [], [], []⟩, k, [(2, [(0, Sp.dat false (Kd.int IntKind.i64)), (3, Sp.own (32) true (Kd.int IntKind.i64))])]⟩) (fn := Go.Proofs.Tryd.f33) (c := Go.Proofs.Tryd.f33.body.getD .skip) mixed tdOk (ctsNil _ _ _ _ _) Go.Proofs.Tryd.func33 (by kernel_rfl) (by kernel_rfl) (fun x => ?_)) S.s_l01Nat_ok
  kernel_rfl
def ct_s_l01Digit : Ct := ⟨[PK.bo (Kd.sl (Kd.int IntKind.i64)), PK.ro (Kd.int IntKind.i64)], false, [(false, [RC.ro (Kd.int IntKind.i64)])], S.s_l01Digit, []⟩
theorem v_s_l01Digit : Valid Go.Proofs.Tryd.prog gl 52 ct_s_l01Digit := by
  refine Valid.less (ps := [PK.bo (Kd.sl (Kd.int IntKind.i64)), PK.ro (Kd.int IntKind.i64)]) (tup := false) (rs := [(false, [RC.ro (Kd.int IntKind.i64)])]) (ar := []) (g := P.s_l01Digit) (fun k => valid (fx := ⟨⟨Go.Proofs.Tryd.prog, td, [], [], []⟩, k, []⟩) (fn := Go.Proofs.Tryd.f52) (c := Go.Proofs.Tryd.f52.body.getD .skip) mixed tdOk (ctsNil _ _ _ _ _) Go.Proofs.Tryd.func52 (by kernel_rfl) (by kernel_rfl) (fun x => ?_)) S.s_l01Digit_ok
  kernel_rfl
def ct_s_l01Small : Ct := ⟨[PK.bo (Kd.sl (Kd.int IntKind.i64))], true, [(false, [RC.ro (Kd.int IntKind.i64)]), (false, [RC.ro Kd.bool])], S.s_l01Small, []⟩
theorem v_s_l01Small : Valid Go.Proofs.Tryd.prog gl 66 ct_s_l01Small := by
  refine Valid.less (ps := [PK.bo (Kd.sl (Kd.int IntKind.i64))]) (tup := true) (rs := [(false, [RC.ro (Kd.int IntKind.i64)]), (false, [RC.ro Kd.bool])]) (ar := []) (g := P.s_l01Small) (fun k => valid (fx := ⟨⟨Go.Proofs.Tryd.prog, td, [(52, ct_s_l01Digit)], [], []⟩, k, []⟩) (fn := Go.Proofs.Tryd.f66) (c := Go.Proofs.Tryd.f66.body.getD .skip) mixed tdOk (ctsCons v_s_l01Digit (ctsNil _ _ _ _ _)) Go.Proofs.Tryd.func66 (by kernel_rfl) (by kernel_rfl) (fun x => ?_)) S.s_l01Small_ok
  kernel_rfl
def ct_s_l01ShortMul : Ct := ⟨[PK.bo (Kd.sl (Kd.int IntKind.i64)), PK.ro (Kd.int IntKind.i64)], false, [(false, [RC.own (Kd.int IntKind.i64)])], S.s_l01ShortMul, []⟩
theorem v_s_l01ShortMul : Valid Go.Proofs.Tryd.prog gl 68 ct_s_l01ShortMul := by
  refine Valid.less (ps := [PK.bo (Kd.sl (Kd.int IntKind.i64)), PK.ro (Kd.int IntKind.i64)]) (tup := false) (rs := [(false, [RC.own (Kd.int IntKind.i64)])]) (ar := []) (g := P.s_l01ShortMul) (fun k => valid (fx := ⟨⟨Go.Proofs.Tryd.prog, td, [], [], []⟩, k, [(4, [(16, Sp.dat false (Kd.int IntKind.i64)), (15, Sp.dat false (Kd.int IntKind.i64)), (14, Sp.dat true (Kd.sl (Kd.int IntKind.i64))),   (1, Sp.dat false (Kd.int IntKind.i64)), (6, Sp.dat false (Kd.int IntKind.i64)), (5, Sp.own (104) true (Kd.int IntKind.i64))])]⟩) (fn := Go.Proofs.Tryd.f68) (c := Go.Proofs.Tryd.f68.body.getD .skip) mixed tdOk (ctsNil _ _ _ _ _) Go.Proofs.Tryd.func68 (by kernel_rfl) (by kernel_rfl) (fun x => ?_)) S.s_l01ShortMul_ok
  kernel_rfl
def ct_s_l01ShortDiv : Ct := ⟨[PK.bo (Kd.sl (Kd.int IntKind.i64)), PK.ro (Kd.int IntKind.i64)], true, [(false, [RC.ro (Kd.sl (Kd.int IntKind.i64))]), (false, [RC.ro (Kd.int IntKind.i64)])], S.s_l01ShortDiv, []⟩
theorem v_s_l01ShortDiv : Valid Go.Proofs.Tryd.prog gl 67 ct_s_l01ShortDiv := by
  refine Valid.less (ps := [PK.bo (Kd.sl (Kd.int IntKind.i64)), PK.ro (Kd.int IntKind.i64)]) (tup := true) (rs := [(false, [RC.ro (Kd.sl (Kd.int IntKind.i64))]), (false, [RC.ro (Kd.int IntKind.i64)])]) (ar := []) (g := P.s_l01ShortDiv) (fun k => valid (fx := ⟨⟨Go.Proofs.Tryd.prog, td, [(50, ct_s_l01Trim)], [], []⟩, k, [(4, [(8, Sp.dat false (Kd.int IntKind.i64)), (7, Sp.dat false (Kd.int IntKind.i64)), (0, Sp.dat true (Kd.sl (Kd.int IntKind.i64))),   (6, Sp.own (96) true (Kd.int IntKind.i64)), (1, Sp.dat false (Kd.int IntKind.i64))])]⟩) (fn := Go.Proofs.Tryd.f67) (c := Go.Proofs.Tryd.f67.body.getD .skip) mixed tdOk (ctsCons v_s_l01Trim (ctsNil _ _ _ _ _)) Go.Proofs.Tryd.func67 (by kernel_rfl) (by kernel_rfl) (fun x => ?_)) S.s_l01ShortDiv_ok
  kernel_rfl
def ct_s_l01TakeOff : Ct := ⟨[PK.mu (Kd.int IntKind.i64), PK.bo (Kd.sl (Kd.int IntKind.i64)), PK.ro (Kd.int IntKind.i64), PK.ro (Kd.int IntKind.i64)], false, [(false, [RC.ro Kd.bool])], S.s_l01TakeOff, []⟩
theorem v_s_l01TakeOff : Valid Go.Proofs.Tryd.prog gl 69 ct_s_l01TakeOff := by
  refine Valid.less (ps := [PK.mu (Kd.int IntKind.i64), PK.bo (Kd.sl (Kd.int IntKind.i64)), PK.ro (Kd.int IntKind.i64), PK.ro (Kd.int IntKind.i64)]) (tup := false) (rs := [(false, [RC.ro Kd.bool])]) (ar := []) (g := P.s_l01TakeOff) (fun k => valid (fx := ⟨⟨Go.Proofs.Tryd.prog, td, [], [], []⟩, k, [(3, [(15, Sp.dat false (Kd.int IntKind.i64)), (14, Sp.dat false (Kd.int IntKind.i64)), (13, Sp.dat true (Kd.sl (Kd.int IntKind.i64))),   (0, Sp.own (0) false (Kd.int IntKind.i64)), (2, Sp.dat false (Kd.int IntKind.i64)), (3, Sp.dat false (Kd.int IntKind.i64)),   (9, Sp.dat false (Kd.int IntKind.i64)), (1, Sp.dat true (Kd.sl (Kd.int IntKind.i64)))])]⟩) (fn := Go.Proofs.Tryd.f69) (c := Go.Proofs.Tryd.f69.body.getD .skip) mixed tdOk (ctsNil _ _ _ _ _) Go.Proofs.Tryd.func69 (by kernel_rfl) (by kernel_rfl) (fun x => ?_)) S.s_l01TakeOff_ok
  kernel_rfl
def ct_s_l01PutBack : Ct := ⟨[PK.mu (Kd.int IntKind.i64), PK.bo (Kd.sl (Kd.int IntKind.i64)), PK.ro (Kd.int IntKind.i64)], true, [], S.s_l01PutBack, []⟩
theorem v_s_l01PutBack : Valid Go.Proofs.Tryd.prog gl 70 ct_s_l01PutBack := by
  refine Valid.less (ps := [PK.mu (Kd.int IntKind.i64), PK.bo (Kd.sl (Kd.int IntKind.i64)), PK.ro (Kd.int IntKind.i64)]) (tup := true) (rs := []) (ar := []) (g := P.s_l01PutBack) (fun k => valid (fx := ⟨⟨Go.Proofs.Tryd.prog, td, [], [], []⟩, k, [(2, [(12, Sp.dat false (Kd.int IntKind.i64)), (11, Sp.dat false (Kd.int IntKind.i64)), (10, Sp.dat true (Kd.sl (Kd.int IntKind.i64))),   (0, Sp.own (0) false (Kd.int IntKind.i64)), (2, Sp.dat false (Kd.int IntKind.i64)), (6, Sp.dat false (Kd.int IntKind.i64)),   (1, Sp.dat true (Kd.sl (Kd.int IntKind.i64)))])]⟩) (fn := Go.Proofs.Tryd.f70) (c := Go.Proofs.Tryd.f70.body.getD .skip) mixed tdOk (ctsNil _ _ _ _ _) Go.Proofs.Tryd.func70 (by kernel_rfl) (by kernel_rfl) (fun x => ?_)) S.s_l01PutBack_ok
  kernel_rfl
def ct_s_l01NatDiv : Ct := ⟨[PK.bo (Kd.sl (Kd.int IntKind.i64)), PK.bo (Kd.sl (Kd.int IntKind.i64))], true, [(false, [RC.ro (Kd.sl (Kd.int IntKind.i64))]), (false, [RC.ro (Kd.sl (Kd.int IntKind.i64))])], S.s_l01NatDiv, []⟩
theorem v_s_l01NatDiv : Valid Go.Proofs.Tryd.prog gl 51 ct_s_l01NatDiv := by
  refine Valid.less (ps := [PK.bo (Kd.sl (Kd.int IntKind.i64)), PK.bo (Kd.sl (Kd.int IntKind.i64))]) (tup := true) (rs := [(false, [RC.ro (Kd.sl (Kd.int IntKind.i64))]), (false, [RC.ro (Kd.sl (Kd.int IntKind.i64))])]) (ar := []) (g := P.s_l01NatDiv) (fun k => valid (fx := ⟨⟨Go.Proofs.Tryd.prog, td, [(50, ct_s_l01Trim), (33, ct_s_l01Nat), (29, ct_s_l01Cmp), (66, ct_s_l01Small), (68, ct_s_l01ShortMul), (67, ct_s_l01ShortDiv), (69, ct_s_l01TakeOff), (70, ct_s_l01PutBack)], [], []⟩, k, [(21, [(19, Sp.dat false (Kd.int IntKind.i64)), (14, Sp.dat false (Kd.sl (Kd.int IntKind.i64))),   (15, Sp.dat false (Kd.int IntKind.i64)), (20, Sp.dat false (Kd.int IntKind.i64)),   (13, Sp.own (624) true (Kd.int IntKind.i64)), (17, Sp.dat false (Kd.int IntKind.i64)),   (16, Sp.own (744) true (Kd.int IntKind.i64)), (12, Sp.dat false (Kd.int IntKind.i64))]), (17, [(17, Sp.dat false (Kd.int IntKind.i64)), (13, Sp.own (624) true (Kd.int IntKind.i64)), (15, Sp.dat false (Kd.int IntKind.i64)),   (14, Sp.dat false (Kd.sl (Kd.int IntKind.i64))), (16, Sp.own (744) true (Kd.int IntKind.i64)),   (12, Sp.dat false (Kd.int IntKind.i64))])]⟩) (fn := Go.Proofs.Tryd.f51) (c := Go.Proofs.Tryd.f51.body.getD .skip) mixed tdOk (ctsCons v_s_l01Trim (ctsCons v_s_l01Nat (ctsCons v_s_l01Cmp (ctsCons v_s_l01Small (ctsCons v_s_l01ShortMul (ctsCons v_s_l01ShortDiv (ctsCons v_s_l01TakeOff (ctsCons v_s_l01PutBack (ctsNil _ _ _ _ _))))))))) Go.Proofs.Tryd.func51 (by kernel_rfl) (by kernel_rfl) (fun x => ?_)) S.s_l01NatDiv_ok
  kernel_rfl
def ct_s_l01Gcd : Ct := ⟨[PK.ro (Kd.sl (Kd.int IntKind.i64)), PK.ro (Kd.sl (Kd.int IntKind.i64))], false, [(false, [RC.ro (Kd.sl (Kd.int IntKind.i64))])], S.s_l01Gcd, []⟩
theorem v_s_l01Gcd : Valid Go.Proofs.Tryd.prog gl 30 ct_s_l01Gcd := by
  refine Valid.less (ps := [PK.ro (Kd.sl (Kd.int IntKind.i64)), PK.ro (Kd.sl (Kd.int IntKind.i64))]) (tup := false) (rs := [(false, [RC.ro (Kd.sl (Kd.int IntKind.i64))])]) (ar := []) (g := P.s_l01Gcd) (fun k => valid (fx := ⟨⟨Go.Proofs.Tryd.prog, td, [(51, ct_s_l01NatDiv)], [], []⟩, k, [(1, [(1, Sp.dat false (Kd.sl (Kd.int IntKind.i64))), (0, Sp.dat false (Kd.sl (Kd.int IntKind.i64)))])]⟩) (fn := Go.Proofs.Tryd.f30) (c := Go.Proofs.Tryd.f30.body.getD .skip) mixed tdOk (ctsCons v_s_l01NatDiv (ctsNil _ _ _ _ _)) Go.Proofs.Tryd.func30 (by kernel_rfl) (by kernel_rfl) (fun x => ?_)) S.s_l01Gcd_ok
  kernel_rfl
def ct_s_l01NatRead : Ct := ⟨[PK.ro Kd.str], false, [(false, [RC.ro (Kd.sl (Kd.int IntKind.i64))])], S.s_l01NatRead, []⟩
theorem v_s_l01NatRead : Valid Go.Proofs.Tryd.prog gl 28 ct_s_l01NatRead := by
  refine Valid.less (ps := [PK.ro Kd.str]) (tup := false) (rs := [(false, [RC.ro (Kd.sl (Kd.int IntKind.i64))])]) (ar := []) (g := P.s_l01NatRead) (fun k => valid (fx := ⟨⟨Go.Proofs.Tryd.prog, td, [(50, ct_s_l01Trim)], [], []⟩, k, [(10, [(7, Sp.dat false (Kd.int IntKind.i64)), (4, Sp.dat false (Kd.int IntKind.i64)), (6, Sp.dat false (Kd.int IntKind.i64)),   (0, Sp.dat false Kd.str), (3, Sp.own (64) true (Kd.int IntKind.i64))]), (3, [(4, Sp.dat false (Kd.int IntKind.i64)), (0, Sp.dat false Kd.str), (3, Sp.own (64) true (Kd.int IntKind.i64))])]⟩) (fn := Go.Proofs.Tryd.f28) (c := Go.Proofs.Tryd.f28.body.getD .skip) mixed tdOk (ctsCons v_s_l01Trim (ctsNil _ _ _ _ _)) Go.Proofs.Tryd.func28 (by kernel_rfl) (by kernel_rfl) (fun x => ?_)) S.s_l01NatRead_ok
  kernel_rfl
def ct_s_l01Digits : Ct := ⟨[PK.ro Kd.str], false, [(false, [RC.ro Kd.bool])], S.s_l01Digits, []⟩
theorem v_s_l01Digits : Valid Go.Proofs.Tryd.prog gl 27 ct_s_l01Digits := by
  refine Valid.less (ps := [PK.ro Kd.str]) (tup := false) (rs := [(false, [RC.ro Kd.bool])]) (ar := []) (g := P.s_l01Digits) (fun k => valid (fx := ⟨⟨Go.Proofs.Tryd.prog, td, [], [], []⟩, k, [(2, [(3, Sp.dat false (Kd.int IntKind.i64)), (0, Sp.dat false Kd.str)])]⟩) (fn := Go.Proofs.Tryd.f27) (c := Go.Proofs.Tryd.f27.body.getD .skip) mixed tdOk (ctsNil _ _ _ _ _) Go.Proofs.Tryd.func27 (by kernel_rfl) (by kernel_rfl) (fun x => ?_)) S.s_l01Digits_ok
  kernel_rfl
def ct_s_l01Parse : Ct := ⟨[PK.ro Kd.str], true, [(true, [RC.ro (Kd.st (Kd.pair Kd.bool (Kd.pair (Kd.sl (Kd.int IntKind.i64)) (Kd.sl (Kd.int IntKind.i64)))))]), (false, [RC.ro Kd.bool])], S.s_l01Parse, []⟩
theorem v_s_l01Parse : Valid Go.Proofs.Tryd.prog gl 13 ct_s_l01Parse := by
  refine Valid.less (ps := [PK.ro Kd.str]) (tup := true) (rs := [(true, [RC.ro (Kd.st (Kd.pair Kd.bool (Kd.pair (Kd.sl (Kd.int IntKind.i64)) (Kd.sl (Kd.int IntKind.i64)))))]), (false, [RC.ro Kd.bool])]) (ar := []) (g := P.s_l01Parse) (fun k => valid (fx := ⟨⟨Go.Proofs.Tryd.prog, td, [(26, ct_s_l01Cut), (29, ct_s_l01Cmp), (30, ct_s_l01Gcd), (28, ct_s_l01NatRead), (27, ct_s_l01Digits)], [], []⟩, k, []⟩) (fn := Go.Proofs.Tryd.f13) (c := Go.Proofs.Tryd.f13.body.getD .skip) mixed tdOk (ctsCons v_s_l01Cut (ctsCons v_s_l01Cmp (ctsCons v_s_l01Gcd (ctsCons v_s_l01NatRead (ctsCons v_s_l01Digits (ctsNil _ _ _ _ _)))))) Go.Proofs.Tryd.func13 (by kernel_rfl) (by kernel_rfl) (fun x => ?_)) S.s_l01Parse_ok
  kernel_rfl
def ct_s_l01List : Ct := ⟨[PK.bo (Kd.sl Kd.str)], true, [(false, [RC.ro (Kd.sl (Kd.st (Kd.pair Kd.bool (Kd.pair (Kd.sl (Kd.int IntKind.i64)) (Kd.sl (Kd.int IntKind.i64))))))]),   (false, [RC.ro Kd.bool])], S.s_l01List, []⟩
theorem v_s_l01List : Valid Go.Proofs.Tryd.prog gl 43 ct_s_l01List := by
  refine Valid.less (ps := [PK.bo (Kd.sl Kd.str)]) (tup := true) (rs := [(false, [RC.ro (Kd.sl (Kd.st (Kd.pair Kd.bool (Kd.pair (Kd.sl (Kd.int IntKind.i64)) (Kd.sl (Kd.int IntKind.i64))))))]),   (false, [RC.ro Kd.bool])]) (ar := []) (g := P.s_l01List) (fun k => valid (fx := ⟨⟨Go.Proofs.Tryd.prog, td, [(13, ct_s_l01Parse)], [], []⟩, k, [(5, [(14, Sp.dat false (Kd.int IntKind.i64)), (13, Sp.dat false (Kd.int IntKind.i64)), (0, Sp.dat true (Kd.sl Kd.str)),   (4, Sp.own (88) true (Kd.st (Kd.pair Kd.bool (Kd.pair (Kd.sl (Kd.int IntKind.i64)) (Kd.sl (Kd.int IntKind.i64))))))])]⟩) (fn := Go.Proofs.Tryd.f43) (c := Go.Proofs.Tryd.f43.body.getD .skip) mixed tdOk (ctsCons v_s_l01Parse (ctsNil _ _ _ _ _)) Go.Proofs.Tryd.func43 (by kernel_rfl) (by kernel_rfl) (fun x => ?_)) S.s_l01List_ok
  kernel_rfl
def ct_s_l01Zero : Ct := ⟨[PK.bo (Kd.st (Kd.pair Kd.bool (Kd.pair (Kd.sl (Kd.int IntKind.i64)) (Kd.sl (Kd.int IntKind.i64)))))], false, [(false, [RC.ro Kd.bool])], S.s_l01Zero, []⟩
theorem v_s_l01Zero : Valid Go.Proofs.Tryd.prog gl 24 ct_s_l01Zero := by
  refine Valid.less (ps := [PK.bo (Kd.st (Kd.pair Kd.bool (Kd.pair (Kd.sl (Kd.int IntKind.i64)) (Kd.sl (Kd.int IntKind.i64)))))]) (tup := false) (rs := [(false, [RC.ro Kd.bool])]) (ar := []) (g := P.s_l01Zero) (fun k => valid (fx := ⟨⟨Go.Proofs.Tryd.prog, td, [], [], []⟩, k, []⟩) (fn := Go.Proofs.Tryd.f24) (c := Go.Proofs.Tryd.f24.body.getD .skip) mixed tdOk (ctsNil _ _ _ _ _) Go.Proofs.Tryd.func24 (by kernel_rfl) (by kernel_rfl) (fun x => ?_)) S.s_l01Zero_ok
  kernel_rfl
def ct_s_l01Neg : Ct := ⟨[PK.bo (Kd.st (Kd.pair Kd.bool (Kd.pair (Kd.sl (Kd.int IntKind.i64)) (Kd.sl (Kd.int IntKind.i64)))))], false, [(false, [RC.ro Kd.bool])], S.s_l01Neg, []⟩
theorem v_s_l01Neg : Valid Go.Proofs.Tryd.prog gl 25 ct_s_l01Neg := by
  refine Valid.less (ps := [PK.bo (Kd.st (Kd.pair Kd.bool (Kd.pair (Kd.sl (Kd.int IntKind.i64)) (Kd.sl (Kd.int IntKind.i64)))))]) (tup := false) (rs := [(false, [RC.ro Kd.bool])]) (ar := []) (g := P.s_l01Neg) (fun k => valid (fx := ⟨⟨Go.Proofs.Tryd.prog, td, [], [], []⟩, k, []⟩) (fn := Go.Proofs.Tryd.f25) (c := Go.Proofs.Tryd.f25.body.getD .skip) mixed tdOk (ctsNil _ _ _ _ _) Go.Proofs.Tryd.func25 (by kernel_rfl) (by kernel_rfl) (fun x => ?_)) S.s_l01Neg_ok
  kernel_rfl
def ct_s_l02Above : Ct := ⟨[PK.bo (Kd.sl (Kd.st (Kd.pair Kd.bool (Kd.pair (Kd.sl (Kd.int IntKind.i64)) (Kd.sl (Kd.int IntKind.i64))))))], false, [(false, [RC.ro Kd.bool])], S.s_l02Above, []⟩
theorem v_s_l02Above : Valid Go.Proofs.Tryd.prog gl 44 ct_s_l02Above := by
  refine Valid.less (ps := [PK.bo (Kd.sl (Kd.st (Kd.pair Kd.bool (Kd.pair (Kd.sl (Kd.int IntKind.i64)) (Kd.sl (Kd.int IntKind.i64))))))]) (tup := false) (rs := [(false, [RC.ro Kd.bool])]) (ar := []) (g := P.s_l02Above) (fun k => valid (fx := ⟨⟨Go.Proofs.Tryd.prog, td, [(24, ct_s_l01Zero), (25, ct_s_l01Neg)], [], []⟩, k, [(2, [(3, Sp.dat false (Kd.int IntKind.i64)),   (0, Sp.dat true (Kd.sl (Kd.st (Kd.pair Kd.bool (Kd.pair (Kd.sl (Kd.int IntKind.i64)) (Kd.sl (Kd.int IntKind.i64)))))))])]⟩) (fn := Go.Proofs.Tryd.f44) (c := Go.Proofs.Tryd.f44.body.getD .skip) mixed tdOk (ctsCons v_s_l01Zero (ctsCons v_s_l01Neg (ctsNil _ _ _ _ _))) Go.Proofs.Tryd.func44 (by kernel_rfl) (by kernel_rfl) (fun x => ?_)) S.s_l02Above_ok
  kernel_rfl
def ct_s_l02Parse : Ct := ⟨[PK.bo (Kd.pt (Kd.st (Kd.pair (Kd.sl Kd.str) (Kd.sl Kd.str))))], true, [(true,     [RC.ro         (Kd.st           (Kd.pair (Kd.sl (Kd.st (Kd.pair Kd.bool (Kd.pair (Kd.sl (Kd.int IntKind.i64)) (Kd.sl (Kd.int IntKind.i64))))))             (Kd.sl (Kd.st (Kd.pair Kd.bool (Kd.pair (Kd.sl (Kd.int IntKind.i64)) (Kd.sl (Kd.int IntKind.i64))))))))]),   (false, [RC.ro Kd.bool])], S.s_l02Parse, []⟩
theorem v_s_l02Parse : Valid Go.Proofs.Tryd.prog gl 20 ct_s_l02Parse := by
  refine Valid.less (ps := [PK.bo (Kd.pt (Kd.st (Kd.pair (Kd.sl Kd.str) (Kd.sl Kd.str))))]) (tup := true) (rs := [(true,     [RC.ro         (Kd.st           (Kd.pair (Kd.sl (Kd.st (Kd.pair Kd.bool (Kd.pair (Kd.sl (Kd.int IntKind.i64)) (Kd.sl (Kd.int IntKind.i64))))))             (Kd.sl (Kd.st (Kd.pair Kd.bool (Kd.pair (Kd.sl (Kd.int IntKind.i64)) (Kd.sl (Kd.int IntKind.i64))))))))]),   (false, [RC.ro Kd.bool])]) (ar := []) (g := P.s_l02Parse) (fun k => valid (fx := ⟨⟨Go.Proofs.Tryd.prog, td, [(43, ct_s_l01List), (44, ct_s_l02Above)], [], []⟩, k, []⟩) (fn := Go.Proofs.Tryd.f20) (c := Go.Proofs.Tryd.f20.body.getD .skip) mixed tdOk (ctsCons v_s_l01List (ctsCons v_s_l02Above (ctsNil _ _ _ _ _))) Go.Proofs.Tryd.func20 (by kernel_rfl) (by kernel_rfl) (fun x => ?_)) S.s_l02Parse_ok
  kernel_rfl
def ct_s_ValidLine : Ct := ⟨[PK.bo (Kd.st (Kd.pair (Kd.sl Kd.str) (Kd.sl Kd.str)))], false, [(false, [RC.ro Kd.bool])], S.s_ValidLine, []⟩
theorem v_s_ValidLine : Valid Go.Proofs.Tryd.prog gl 8 ct_s_ValidLine := by
  refine Valid.less (ps := [PK.bo (Kd.st (Kd.pair (Kd.sl Kd.str) (Kd.sl Kd.str)))]) (tup := false) (rs := [(false, [RC.ro Kd.bool])]) (ar := []) (g := P.s_ValidLine) (fun k => valid (fx := ⟨⟨Go.Proofs.Tryd.prog, td, [(20, ct_s_l02Parse)], [], []⟩, k, []⟩) (fn := Go.Proofs.Tryd.f8) (c := Go.Proofs.Tryd.f8.body.getD .skip) mixed tdOk (ctsCons v_s_l02Parse (ctsNil _ _ _ _ _)) Go.Proofs.Tryd.func8 (by kernel_rfl) (by kernel_rfl) (fun x => ?_)) S.s_ValidLine_ok
  kernel_rfl
def ct_strings_Cut : Ct := ⟨[PK.ro Kd.str, PK.ro Kd.str], true, [(false, [RC.ro Kd.str]), (false, [RC.ro Kd.str]), (false, [RC.ro Kd.bool])], S.strings_Cut, []⟩
theorem v_strings_Cut (hM : InM gl) : Valid Go.Proofs.Tryd.prog gl 35 ct_strings_Cut := by
  refine told_flat (enters_of Go.Proofs.Tryd.func35 (by kernel_rfl) (by kernel_rfl)) (fun _ _ _ _ _ _ => trivial) (fun w M0 W0 us x γ hl hW ha r hr => ?_)
  obtain ⟨s, b, q⟩ := x
  obtain ⟨u1, _, rfl, ⟨c1, h1, h1'⟩, u2, _, rfl, ⟨c2, h2, h2'⟩, rfl⟩ := ha
  cases h1'; cases h2'; subst h1; subst h2
  unfold S.strings_Cut at hr
  split at hr
  case isFalse => cases hr
  rename_i hc
  cases hr
  obtain ⟨m, hm⟩ := hM
  refine (Go.Proofs.Tryd.strings_Cut s b m w hc (laid_cell hl hm)).mono ?_
  rintro e w' ⟨rfl, n, rfl⟩
  exact ⟨[_, _, _], rfl, ⟨rfl, rfl, rfl, Nat.le_refl _, fun _ _ => rfl⟩, fun M' => ⟨[_], [_, _], rfl, fun _ => rfl, rfl, [_], [_], rfl, fun _ => rfl, rfl, [_], rfl, fun _ => rfl, rfl⟩⟩

def ct_strings_CutPrefix : Ct := ⟨[PK.ro Kd.str, PK.ro Kd.str], true, [(false, [RC.ro Kd.str]), (false, [RC.ro Kd.bool])], S.strings_CutPrefix, []⟩
theorem v_strings_CutPrefix : Valid Go.Proofs.Tryd.prog gl 36 ct_strings_CutPrefix := by
  refine told_flat (enters_of Go.Proofs.Tryd.func36 (by kernel_rfl) (by kernel_rfl)) (fun _ _ _ _ _ _ => trivial) (fun w M0 W0 us x γ hl hW ha r hr => ?_)
  obtain ⟨s, b, q⟩ := x
  obtain ⟨u1, _, rfl, ⟨c1, h1, h1'⟩, u2, _, rfl, ⟨c2, h2, h2'⟩, rfl⟩ := ha
  cases h1'; cases h2'; subst h1; subst h2
  cases hr
  refine (Go.Proofs.Tryd.strings_CutPrefix s b w).mono ?_
  rintro e w' ⟨rfl, rfl⟩
  exact ⟨[_, _], rfl, Below.refl _ _, fun M' => ⟨[_], [_], rfl, fun _ => rfl, rfl, [_], rfl, fun _ => rfl, rfl⟩⟩

def ct_i_nat_trim : Ct := ⟨[PK.ro (Kd.sl (Kd.int IntKind.u32))], false, [(false, [RC.ro (Kd.sl (Kd.int IntKind.u32))])], S.i_nat_trim, []⟩
theorem v_i_nat_trim : Valid Go.Proofs.Tryd.prog gl 58 ct_i_nat_trim := by
  refine Valid.less (ps := [PK.ro (Kd.sl (Kd.int IntKind.u32))]) (tup := false) (rs := [(false, [RC.ro (Kd.sl (Kd.int IntKind.u32))])]) (ar := []) (g := P.i_nat_trim) (fun k => valid (fx := ⟨⟨Go.Proofs.Tryd.prog, td, [], [], []⟩, k, [(1, [(0, Sp.dat false (Kd.sl (Kd.int IntKind.u32)))])]⟩) (fn := Go.Proofs.Tryd.f58) (c := Go.Proofs.Tryd.f58.body.getD .skip) mixed tdOk (ctsNil _ _ _ _ _) Go.Proofs.Tryd.func58 (by kernel_rfl) (by kernel_rfl) (fun x => ?_)) S.i_nat_trim_ok
  kernel_rfl
def ct_i_natOf : Ct := ⟨[PK.ro (Kd.int IntKind.u64)], false, [(false, [RC.ro (Kd.sl (Kd.int IntKind.u32))])], S.i_natOf, []⟩
theorem v_i_natOf : Valid Go.Proofs.Tryd.prog gl 38 ct_i_natOf := by
  refine Valid.less (ps := [PK.ro (Kd.int IntKind.u64)]) (tup := false) (rs := [(false, [RC.ro (Kd.sl (Kd.int IntKind.u32))])]) (ar := []) (g := P.i_natOf) (fun k => valid (fx := ⟨⟨Go.Proofs.Tryd.prog, td, [(58, ct_i_nat_trim)], [], []⟩, k, []⟩) (fn := Go.Proofs.Tryd.f38) (c := Go.Proofs.Tryd.f38.body.getD .skip) mixed tdOk (ctsCons v_i_nat_trim (ctsNil _ _ _ _ _)) Go.Proofs.Tryd.func38 (by kernel_rfl) (by kernel_rfl) (fun x => ?_)) S.i_natOf_ok
  kernel_rfl
def ct_i_nat_cmp : Ct := ⟨[PK.bo (Kd.sl (Kd.int IntKind.u32)), PK.bo (Kd.sl (Kd.int IntKind.u32))], false, [(false, [RC.ro (Kd.int IntKind.i64)])], S.i_nat_cmp, []⟩
theorem v_i_nat_cmp : Valid Go.Proofs.Tryd.prog gl 39 ct_i_nat_cmp := by
  refine Valid.less (ps := [PK.bo (Kd.sl (Kd.int IntKind.u32)), PK.bo (Kd.sl (Kd.int IntKind.u32))]) (tup := false) (rs := [(false, [RC.ro (Kd.int IntKind.i64)])]) (ar := []) (g := P.i_nat_cmp) (fun k => valid (fx := ⟨⟨Go.Proofs.Tryd.prog, td, [], [], []⟩, k, [(6, [(5, Sp.dat false (Kd.int IntKind.i64)), (0, Sp.dat true (Kd.sl (Kd.int IntKind.u32))),   (1, Sp.dat true (Kd.sl (Kd.int IntKind.u32)))])]⟩) (fn := Go.Proofs.Tryd.f39) (c := Go.Proofs.Tryd.f39.body.getD .skip) mixed tdOk (ctsNil _ _ _ _ _) Go.Proofs.Tryd.func39 (by kernel_rfl) (by kernel_rfl) (fun x => ?_)) S.i_nat_cmp_ok
  kernel_rfl
def ct_i_nat_small : Ct := ⟨[PK.bo (Kd.sl (Kd.int IntKind.u32))], true, [(false, [RC.ro (Kd.int IntKind.u64)]), (false, [RC.ro Kd.bool])], S.i_nat_small, []⟩
theorem v_i_nat_small : Valid Go.Proofs.Tryd.prog gl 59 ct_i_nat_small := by
  refine Valid.less (ps := [PK.bo (Kd.sl (Kd.int IntKind.u32))]) (tup := true) (rs := [(false, [RC.ro (Kd.int IntKind.u64)]), (false, [RC.ro Kd.bool])]) (ar := []) (g := P.i_nat_small) (fun k => valid (fx := ⟨⟨Go.Proofs.Tryd.prog, td, [], [], []⟩, k, [(3, [(5, Sp.dat false (Kd.int IntKind.i64)), (0, Sp.dat true (Kd.sl (Kd.int IntKind.u32))), (4, Sp.dat false (Kd.int IntKind.u64))])]⟩) (fn := Go.Proofs.Tryd.f59) (c := Go.Proofs.Tryd.f59.body.getD .skip) mixed tdOk (ctsNil _ _ _ _ _) Go.Proofs.Tryd.func59 (by kernel_rfl) (by kernel_rfl) (fun x => ?_)) S.i_nat_small_ok
  kernel_rfl
def ct_math_bits_LeadingZeros32 : Ct := ⟨[PK.ro (Kd.int IntKind.u32)], false, [(false, [RC.ro (Kd.int IntKind.i64)])], S.math_bits_LeadingZeros32, []⟩
theorem v_math_bits_LeadingZeros32 : Valid Go.Proofs.Tryd.prog gl 76 ct_math_bits_LeadingZeros32 := by
  refine told_flat (enters_of Go.Proofs.Tryd.func76 (by kernel_rfl) (by kernel_rfl)) (fun _ _ _ _ _ _ => trivial) (fun w M0 W0 us x γ hl hW ha r hr => ?_)
  obtain ⟨n, q⟩ := x
  obtain ⟨u1, _, rfl, ⟨c1, h1, h1'⟩, rfl⟩ := ha
  cases h1'; subst h1
  unfold S.math_bits_LeadingZeros32 at hr
  split at hr
  case isFalse => cases hr
  rename_i hc
  cases hr
  refine (Go.Proofs.Tryd.bits_LeadingZeros32 n w hc.1 hc.2).mono ?_
  rintro e w' ⟨rfl, rfl⟩
  exact ⟨[_], rfl, Below.refl _ _, fun M' => ⟨[_], rfl, fun _ => rfl, rfl⟩⟩

def ct_i_nat_divSmall : Ct := ⟨[PK.bo (Kd.sl (Kd.int IntKind.u32)), PK.ro (Kd.int IntKind.u32)], true, [(false, [RC.ro (Kd.sl (Kd.int IntKind.u32))]), (false, [RC.ro (Kd.int IntKind.u32)])], S.i_nat_divSmall, []⟩
theorem v_i_nat_divSmall : Valid Go.Proofs.Tryd.prog gl 75 ct_i_nat_divSmall := by
  refine Valid.less (ps := [PK.bo (Kd.sl (Kd.int IntKind.u32)), PK.ro (Kd.int IntKind.u32)]) (tup := true) (rs := [(false, [RC.ro (Kd.sl (Kd.int IntKind.u32))]), (false, [RC.ro (Kd.int IntKind.u32)])]) (ar := []) (g := P.i_nat_divSmall) (fun k => valid (fx := ⟨⟨Go.Proofs.Tryd.prog, td, [(58, ct_i_nat_trim)], [], []⟩, k, [(3, [(8, Sp.dat false (Kd.int IntKind.i64)), (7, Sp.dat false (Kd.int IntKind.u64)), (0, Sp.dat true (Kd.sl (Kd.int IntKind.u32))),   (6, Sp.own (88) true (Kd.int IntKind.u32)), (1, Sp.dat false (Kd.int IntKind.u32))])]⟩) (fn := Go.Proofs.Tryd.f75) (c := Go.Proofs.Tryd.f75.body.getD .skip) mixed tdOk (ctsCons v_i_nat_trim (ctsNil _ _ _ _ _)) Go.Proofs.Tryd.func75 (by kernel_rfl) (by kernel_rfl) (fun x => ?_)) S.i_nat_divSmall_ok
  kernel_rfl
def ct_i_nat_shifted : Ct := ⟨[PK.bo (Kd.sl (Kd.int IntKind.u32)), PK.ro (Kd.int IntKind.i64)], false, [(false, [RC.own (Kd.int IntKind.u32)])], S.i_nat_shifted, []⟩
theorem v_i_nat_shifted : Valid Go.Proofs.Tryd.prog gl 77 ct_i_nat_shifted := by
  refine Valid.less (ps := [PK.bo (Kd.sl (Kd.int IntKind.u32)), PK.ro (Kd.int IntKind.i64)]) (tup := false) (rs := [(false, [RC.own (Kd.int IntKind.u32)])]) (ar := []) (g := P.i_nat_shifted) (fun k => valid (fx := ⟨⟨Go.Proofs.Tryd.prog, td, [], [], []⟩, k, [(3, [(15, Sp.dat false (Kd.int IntKind.i64)), (14, Sp.dat false (Kd.int IntKind.i64)), (13, Sp.dat true (Kd.sl (Kd.int IntKind.u32))),   (1, Sp.dat false (Kd.int IntKind.i64)), (5, Sp.own (96) true (Kd.int IntKind.u32))])]⟩) (fn := Go.Proofs.Tryd.f77) (c := Go.Proofs.Tryd.f77.body.getD .skip) mixed tdOk (ctsNil _ _ _ _ _) Go.Proofs.Tryd.func77 (by kernel_rfl) (by kernel_rfl) (fun x => ?_)) S.i_nat_shifted_ok
  kernel_rfl
def ct_i_takeAway : Ct := ⟨[PK.mu (Kd.int IntKind.u32), PK.bo (Kd.sl (Kd.int IntKind.u32)), PK.ro (Kd.int IntKind.u64)], false, [(false, [RC.ro Kd.bool])], S.i_takeAway, []⟩
theorem v_i_takeAway : Valid Go.Proofs.Tryd.prog gl 78 ct_i_takeAway := by
  refine Valid.less (ps := [PK.mu (Kd.int IntKind.u32), PK.bo (Kd.sl (Kd.int IntKind.u32)), PK.ro (Kd.int IntKind.u64)]) (tup := false) (rs := [(false, [RC.ro Kd.bool])]) (ar := []) (g := P.i_takeAway) (fun k => valid (fx := ⟨⟨Go.Proofs.Tryd.prog, td, [], [], []⟩, k, [(18, [(59, Sp.dat false (Kd.int IntKind.i64)), (58, Sp.dat false (Kd.int IntKind.i64)), (7, Sp.dat false (Kd.int IntKind.u64)),   (0, Sp.own (0) false (Kd.int IntKind.u32)), (1, Sp.dat true (Kd.sl (Kd.int IntKind.u32)))]), (3, [(14, Sp.dat false (Kd.int IntKind.i64)), (13, Sp.dat false (Kd.int IntKind.i64)), (1, Sp.dat true (Kd.sl (Kd.int IntKind.u32))),   (7, Sp.dat false (Kd.int IntKind.u64)), (2, Sp.dat false (Kd.int IntKind.u64)), (0, Sp.own (0) false (Kd.int IntKind.u32)),   (8, Sp.dat false (Kd.int IntKind.i64))])]⟩) (fn := Go.Proofs.Tryd.f78) (c := Go.Proofs.Tryd.f78.body.getD .skip) mixed tdOk (ctsNil _ _ _ _ _) Go.Proofs.Tryd.func78 (by kernel_rfl) (by kernel_rfl) (fun x => ?_)) S.i_takeAway_ok
  kernel_rfl
def ct_i_nat_div : Ct := ⟨[PK.ro (Kd.sl (Kd.int IntKind.u32)), PK.ro (Kd.sl (Kd.int IntKind.u32))], true, [(false, [RC.ro (Kd.sl (Kd.int IntKind.u32))]), (false, [RC.ro (Kd.sl (Kd.int IntKind.u32))])], S.i_nat_div, []⟩
theorem trimN_snoc (xs : List Int) (x : Int) : trimN (xs ++ [x]) = if x = 0 then trimN xs else xs.length + 1 := by
  unfold trimN
  rw [List.reverse_append]
  by_cases h : x = 0
  · simp [h]
  · simp [h]
theorem trimN_le (xs : List Int) : trimN xs ≤ xs.length := by
  unfold trimN
  have := (List.dropWhile_sublist (fun x : Int => x == 0) (l := xs.reverse)).length_le
  simpa using this
def lenOfV : Value → Nat
  | .slice _ m _ => m
  | _ => 0
set_option maxHeartbeats 800000 in
set_option maxRecDepth 100000 in
theorem trim_calls (b o real : Nat) (xs : List Int) (w : World) (hle : xs.length ≤ real) (hbig : xs.length ≤ 1000000000000) (hc : ∀ (i : Nat) (x : Int), xs[i]? = some x → w.cell? ⟨b, o + i, none⟩ = some (.int .u32 x)) :
    Calls Go.Proofs.Tryd.prog 58 #[.slice (some ⟨b, o, none⟩) xs.length real] w fun e w' => e = .returned (.slice (some ⟨b, o, none⟩) (trimN xs) real) ∧ w' = w := by
  go_enter Go.Proofs.Tryd.func58, Go.Proofs.Tryd.ntmps58
  go_wp2
  go_loopw [0] (fun v wr => ∃ m : Nat, m ≤ xs.length ∧ v = .slice (some ⟨b, o, none⟩) m real ∧ wr = w ∧ trimN (xs.take m) = trimN xs) (fun v _ => lenOfV v)
  case atStart => exact ⟨xs.length, Nat.le_refl _, rfl, rfl, by rw [List.take_length]⟩
  case round =>
    obtain ⟨m, hm, rfl, rfl, ht⟩ := hrel
    by_cases h0 : 0 < m
    · obtain ⟨k, rfl⟩ : ∃ k, m = k + 1 := ⟨m - 1, by omega⟩
      have hx : xs[k]? = some xs[k] := List.getElem?_eq_getElem (by omega)
      have hcx := hc k _ hx
      have hw : wrap64 (((k + 1 : Nat) : Int) - 1) = (k : Int) := by
        have e : ((k + 1 : Nat) : Int) - 1 = (k : Int) := by omega
        rw [e]
        exact IntWalk.wrap64_in _ (by omega)
      have ht' : trimN (xs.take (k + 1)) = if xs[k] = 0 then trimN (xs.take k) else k + 1 := by
        rw [← List.take_append_getElem (show k < xs.length by omega), trimN_snoc]
        have : (xs.take k).length = k := by simp; omega
        rw [this]
      go_wp2
      · have hz : (xs[k] == 0) = true := by assumption
        have hz' : xs[k] = 0 := by simpa using hz
        rw [if_pos hz'] at ht'
        exact ⟨⟨k, by omega, rfl, trivial, by rw [← ht', ht]⟩, Nat.lt_succ_self k⟩
      · have hz : (xs[k] == 0) = false := by assumption
        have hz' : ¬ xs[k] = 0 := by simpa using hz
        rw [if_neg hz'] at ht'
        rw [← ht, ht']
        go_ret
        exact ⟨rfl, rfl⟩
    · have h1 : m = 0 := by omega
      subst h1
      go_wp2
      have h2 : trimN xs = 0 := by rw [← ht]; rfl
      rw [h2]
      go_ret
      exact ⟨rfl, rfl⟩
set_option maxHeartbeats 800000 in
set_option maxRecDepth 100000 in
theorem trim_calls0 (A : Option Addr) (real : Nat) (w : World) :
    Calls Go.Proofs.Tryd.prog 58 #[.slice A 0 real] w fun e w' => e = .returned (.slice A 0 real) ∧ w' = w := by
  go_enter Go.Proofs.Tryd.func58, Go.Proofs.Tryd.ntmps58
  go_wp2
  refine wp_loop_rounds 1 ?_
  rw [rounds_succ]
  go_wp2
  go_ret
  exact ⟨rfl, rfl⟩
theorem shr_trim : ShrOk Go.Proofs.Tryd.prog 58 IntKind.u32 trimN := by
  refine ⟨enters_of Go.Proofs.Tryd.func58 (by kernel_rfl) (by kernel_rfl), fun w u xs A real hbig hsl hno hc => ?_⟩
  obtain ⟨A', rfl, hle, hA⟩ := hsl
  rcases Nat.eq_zero_or_pos real with h0 | h0
  · have h1 : xs = [] := List.eq_nil_of_length_eq_zero (by omega)
    subst h1
    refine (trim_calls0 A' real w).mono ?_
    rintro e w' ⟨rfl, rfl⟩
    exact ⟨rfl, Nat.le_refl _, _, rfl, rfl, A', rfl, Nat.zero_le _, fun h => by omega⟩
  · obtain ⟨b, o, rfl, rfl⟩ := hA h0
    refine (trim_calls b o real xs w hle hbig (hc b o rfl)).mono ?_
    rintro e w' ⟨rfl, rfl⟩
    have := trimN_le xs
    exact ⟨rfl, this, _, rfl, rfl, _, rfl, by omega, fun _ => ⟨b, o, rfl, rfl⟩⟩

theorem v_i_nat_div : Valid Go.Proofs.Tryd.prog gl 60 ct_i_nat_div := by
  refine Valid.less (ps := [PK.ro (Kd.sl (Kd.int IntKind.u32)), PK.ro (Kd.sl (Kd.int IntKind.u32))]) (tup := true) (rs := [(false, [RC.ro (Kd.sl (Kd.int IntKind.u32))]), (false, [RC.ro (Kd.sl (Kd.int IntKind.u32))])]) (ar := []) (g := P.i_nat_div) (fun k => valid (fx := ⟨⟨Go.Proofs.Tryd.prog, td, [(76, ct_math_bits_LeadingZeros32), (58, ct_i_nat_trim), (39, ct_i_nat_cmp), (75, ct_i_nat_divSmall), (77, ct_i_nat_shifted), (78, ct_i_takeAway)], [], [(58, IntKind.u32, trimN)]⟩, k, [(26, [(148, Sp.dat false (Kd.int IntKind.i64)), (147, Sp.dat false (Kd.int IntKind.i64)),   (9, Sp.own (400) true (Kd.int IntKind.u32)), (8, Sp.dat false (Kd.int IntKind.i64)),   (13, Sp.own (592) true (Kd.int IntKind.u32))]), (17, [(17, Sp.dat false (Kd.int IntKind.u64)), (12, Sp.dat false (Kd.int IntKind.u64)), (18, Sp.dat false (Kd.int IntKind.u64)),   (9, Sp.own (400) true (Kd.int IntKind.u32)), (15, Sp.dat false (Kd.int IntKind.i64)), (11, Sp.dat false (Kd.int IntKind.u64)),   (14, Sp.dat false (Kd.int IntKind.i64)), (10, Sp.dat false (Kd.sl (Kd.int IntKind.u32))),   (13, Sp.own (592) true (Kd.int IntKind.u32)), (8, Sp.dat false (Kd.int IntKind.i64))]), (12, [(14, Sp.dat false (Kd.int IntKind.i64)), (10, Sp.dat false (Kd.sl (Kd.int IntKind.u32))),   (9, Sp.own (400) true (Kd.int IntKind.u32)), (11, Sp.dat false (Kd.int IntKind.u64)), (12, Sp.dat false (Kd.int IntKind.u64)),   (13, Sp.own (592) true (Kd.int IntKind.u32)), (8, Sp.dat false (Kd.int IntKind.i64))])]⟩) (fn := Go.Proofs.Tryd.f60) (c := Go.Proofs.Tryd.f60.body.getD .skip) mixed tdOk (ctsCons v_math_bits_LeadingZeros32 (ctsCons v_i_nat_trim (ctsCons v_i_nat_cmp (ctsCons v_i_nat_divSmall (ctsCons v_i_nat_shifted (ctsCons v_i_takeAway (ctsShr shr_trim))))))) Go.Proofs.Tryd.func60 (by kernel_rfl) (by kernel_rfl) (fun x => ?_)) S.i_nat_div_ok
  kernel_rfl
def ct_i_nat_gcd : Ct := ⟨[PK.ro (Kd.sl (Kd.int IntKind.u32)), PK.ro (Kd.sl (Kd.int IntKind.u32))], false, [(false, [RC.ro (Kd.sl (Kd.int IntKind.u32))])], S.i_nat_gcd, []⟩
theorem v_i_nat_gcd : Valid Go.Proofs.Tryd.prog gl 40 ct_i_nat_gcd := by
  refine Valid.less (ps := [PK.ro (Kd.sl (Kd.int IntKind.u32)), PK.ro (Kd.sl (Kd.int IntKind.u32))]) (tup := false) (rs := [(false, [RC.ro (Kd.sl (Kd.int IntKind.u32))])]) (ar := []) (g := P.i_nat_gcd) (fun k => valid (fx := ⟨⟨Go.Proofs.Tryd.prog, td, [(38, ct_i_natOf), (59, ct_i_nat_small), (60, ct_i_nat_div)], [], []⟩, k, [(5, [(7, Sp.dat false (Kd.int IntKind.u64)), (5, Sp.dat false (Kd.int IntKind.u64))]), (1, [(1, Sp.dat false (Kd.sl (Kd.int IntKind.u32))), (0, Sp.dat false (Kd.sl (Kd.int IntKind.u32)))])]⟩) (fn := Go.Proofs.Tryd.f40) (c := Go.Proofs.Tryd.f40.body.getD .skip) mixed tdOk (ctsCons v_i_natOf (ctsCons v_i_nat_small (ctsCons v_i_nat_div (ctsNil _ _ _ _ _)))) Go.Proofs.Tryd.func40 (by kernel_rfl) (by kernel_rfl) (fun x => ?_)) S.i_nat_gcd_ok
  kernel_rfl
def ct_strconv_ParseUint : Ct := ⟨[PK.ro Kd.str, PK.ro (Kd.int IntKind.i64), PK.ro (Kd.int IntKind.i64)], true, [(false, [RC.ro (Kd.int IntKind.u64)]), (false, [RC.ro Kd.er])], S.strconv_ParseUint, []⟩
theorem v_strconv_ParseUint (hR : InR gl) (hS : InS gl) : Valid Go.Proofs.Tryd.prog gl 55 ct_strconv_ParseUint := by
  refine told_flat (enters_of Go.Proofs.Tryd.func55 (by kernel_rfl) (by kernel_rfl)) (fun _ _ _ _ _ _ => trivial) (fun w M0 W0 us x γ hl hW ha r hr => ?_)
  obtain ⟨s, b, z, q⟩ := x
  obtain ⟨u1, _, rfl, ⟨c1, h1, h1'⟩, u2, _, rfl, ⟨c2, h2, h2'⟩, u3, _, rfl, ⟨c3, h3, h3'⟩, rfl⟩ := ha
  cases h1'; cases h2'; cases h3'; subst h1; subst h2; subst h3
  unfold S.strconv_ParseUint at hr
  split at hr
  case isFalse => cases hr
  rename_i hc
  obtain ⟨hb, hz, hs⟩ := hc
  dsimp only at hb hz hs hr
  subst hb; subst hz
  obtain ⟨t1, p1, hS⟩ := hS
  obtain ⟨t2, p2, hR⟩ := hR
  have v1 : w.var? Go.Proofs.Tryd.prog "strconv.ErrSyntax" = some #[.iface t1 p1] := laid_var hl hS (by kernel_rfl)
  have v2 : w.var? Go.Proofs.Tryd.prog "strconv.ErrRange" = some #[.iface t2 p2] := laid_var hl hR (by kernel_rfl)
  split at hr
  · rename_i v hv
    cases hr
    refine (Go.Proofs.Tryd.strconv_ParseUint_10_at64_ok s (by omega) v hv w).mono ?_
    rintro e w' ⟨rfl, hw⟩
    refine ⟨[_, _], rfl, ?_, fun M' => ⟨[_], [_], rfl, fun _ => rfl, rfl, [_], rfl, fun _ => rfl, _, rfl, rfl, rfl⟩⟩
    rcases hw with rfl | ⟨t, rfl⟩
    · exact Below.refl _ _
    · exact ⟨rfl, rfl, rfl, by rw [Lib.bytesWorld_size]; omega, fun k hk => Lib.bytesWorld_at_old _ _ _ k (by omega)⟩
  · rename_i hv
    cases hr
    refine (Go.Proofs.Tryd.strconv_ParseUint_10_at64_syntax_var s hs hv t1 p1 w v1).mono ?_
    rintro e w' ⟨N, rfl, _, _, hbl⟩
    exact ⟨[_, _], rfl, hbl, fun M' => ⟨[_], [_], rfl, fun _ => rfl, rfl, [_], rfl, fun _ => rfl, _, rfl, rfl, _, _, rfl⟩⟩
  · rename_i hv
    cases hr
    refine (Go.Proofs.Tryd.strconv_ParseUint_10_at64_range_var s hs hv t2 p2 w v2).mono ?_
    rintro e w' ⟨N, rfl, _, _, hbl⟩
    exact ⟨[_, _], rfl, hbl, fun M' => ⟨[_], [_], rfl, fun _ => rfl, rfl, [_], rfl, fun _ => rfl, _, rfl, rfl, _, _, rfl⟩⟩

def ct_i_nat_add : Ct := ⟨[PK.bo (Kd.sl (Kd.int IntKind.u32)), PK.bo (Kd.sl (Kd.int IntKind.u32))], false, [(false, [RC.ro (Kd.sl (Kd.int IntKind.u32))])], S.i_nat_add, []⟩
theorem v_i_nat_add : Valid Go.Proofs.Tryd.prog gl 57 ct_i_nat_add := by
  refine Valid.less (ps := [PK.bo (Kd.sl (Kd.int IntKind.u32)), PK.bo (Kd.sl (Kd.int IntKind.u32))]) (tup := false) (rs := [(false, [RC.ro (Kd.sl (Kd.int IntKind.u32))])]) (ar := []) (g := P.i_nat_add) (fun k => valid (fx := ⟨⟨Go.Proofs.Tryd.prog, td, [(58, ct_i_nat_trim)], [], []⟩, k, [(5, [(21, Sp.dat false (Kd.int IntKind.i64)), (20, Sp.dat false (Kd.int IntKind.i64)), (6, Sp.dat false (Kd.int IntKind.u64)),   (0, Sp.dat true (Kd.sl (Kd.int IntKind.u32))), (1, Sp.dat true (Kd.sl (Kd.int IntKind.u32))),   (5, Sp.own (144) true (Kd.int IntKind.u32))])]⟩) (fn := Go.Proofs.Tryd.f57) (c := Go.Proofs.Tryd.f57.body.getD .skip) mixed tdOk (ctsCons v_i_nat_trim (ctsNil _ _ _ _ _)) Go.Proofs.Tryd.func57 (by kernel_rfl) (by kernel_rfl) (fun x => ?_)) S.i_nat_add_ok
  kernel_rfl
def ct_i_nat_mul : Ct := ⟨[PK.bo (Kd.sl (Kd.int IntKind.u32)), PK.bo (Kd.sl (Kd.int IntKind.u32))], false, [(false, [RC.ro (Kd.sl (Kd.int IntKind.u32))])], S.i_nat_mul, []⟩
theorem v_i_nat_mul : Valid Go.Proofs.Tryd.prog gl 56 ct_i_nat_mul := by
  refine Valid.less (ps := [PK.bo (Kd.sl (Kd.int IntKind.u32)), PK.bo (Kd.sl (Kd.int IntKind.u32))]) (tup := false) (rs := [(false, [RC.ro (Kd.sl (Kd.int IntKind.u32))])]) (ar := []) (g := P.i_nat_mul) (fun k => valid (fx := ⟨⟨Go.Proofs.Tryd.prog, td, [(58, ct_i_nat_trim)], [], []⟩, k, [(7, [(26, Sp.dat false (Kd.int IntKind.i64)), (25, Sp.dat false (Kd.int IntKind.i64)), (24, Sp.dat true (Kd.sl (Kd.int IntKind.u32))),   (8, Sp.dat false (Kd.int IntKind.u64)), (7, Sp.dat false (Kd.int IntKind.u32)), (5, Sp.own (128) true (Kd.int IntKind.u32)),   (6, Sp.dat false (Kd.int IntKind.i64)), (1, Sp.dat true (Kd.sl (Kd.int IntKind.u32))), (19, Sp.dat false (Kd.int IntKind.i64)),   (18, Sp.dat false (Kd.int IntKind.i64)), (17, Sp.dat true (Kd.sl (Kd.int IntKind.u32)))]), (3, [(19, Sp.dat false (Kd.int IntKind.i64)), (18, Sp.dat false (Kd.int IntKind.i64)), (17, Sp.dat true (Kd.sl (Kd.int IntKind.u32))),   (1, Sp.dat true (Kd.sl (Kd.int IntKind.u32))), (5, Sp.own (128) true (Kd.int IntKind.u32))])]⟩) (fn := Go.Proofs.Tryd.f56) (c := Go.Proofs.Tryd.f56.body.getD .skip) mixed tdOk (ctsCons v_i_nat_trim (ctsNil _ _ _ _ _)) Go.Proofs.Tryd.func56 (by kernel_rfl) (by kernel_rfl) (fun x => ?_)) S.i_nat_mul_ok
  kernel_rfl
def ct_i_readNat : Ct := ⟨[PK.ro Kd.str], true, [(false, [RC.ro (Kd.sl (Kd.int IntKind.u32))]), (false, [RC.ro Kd.bool])], S.i_readNat, []⟩
theorem v_i_readNat (hR : InR gl) (hS : InS gl) : Valid Go.Proofs.Tryd.prog gl 37 ct_i_readNat := by
  refine Valid.less (ps := [PK.ro Kd.str]) (tup := true) (rs := [(false, [RC.ro (Kd.sl (Kd.int IntKind.u32))]), (false, [RC.ro Kd.bool])]) (ar := []) (g := P.i_readNat) (fun k => valid (fx := ⟨⟨Go.Proofs.Tryd.prog, td, [(55, ct_strconv_ParseUint), (38, ct_i_natOf), (57, ct_i_nat_add), (56, ct_i_nat_mul)], [], []⟩, k, [(17, [(59, Sp.dat false (Kd.int IntKind.i64)), (58, Sp.dat false (Kd.int IntKind.i64)), (9, Sp.dat false (Kd.int IntKind.u64)),   (4, Sp.dat false (Kd.sl (Kd.int IntKind.u32))), (7, Sp.dat false (Kd.int IntKind.u64)), (0, Sp.dat false Kd.str),   (6, Sp.dat false (Kd.int IntKind.i64))]), (10, [(0, Sp.dat false Kd.str), (4, Sp.dat false (Kd.sl (Kd.int IntKind.u32)))]), (5, [(30, Sp.dat false (Kd.int IntKind.i64)), (29, Sp.dat false (Kd.int IntKind.i64)), (0, Sp.dat false Kd.str),   (4, Sp.dat false (Kd.sl (Kd.int IntKind.u32)))])]⟩) (fn := Go.Proofs.Tryd.f37) (c := Go.Proofs.Tryd.f37.body.getD .skip) mixed tdOk (ctsCons (v_strconv_ParseUint hR hS) (ctsCons v_i_natOf (ctsCons v_i_nat_add (ctsCons v_i_nat_mul (ctsNil _ _ _ _ _))))) Go.Proofs.Tryd.func37 (by kernel_rfl) (by kernel_rfl) (fun x => ?_)) S.i_readNat_ok
  kernel_rfl
def ct_i_readRat : Ct := ⟨[PK.ro Kd.str], true, [(true, [RC.ro (Kd.st (Kd.pair Kd.bool (Kd.pair (Kd.sl (Kd.int IntKind.u32)) (Kd.sl (Kd.int IntKind.u32)))))]), (false, [RC.ro Kd.bool])], S.i_readRat, []⟩
theorem v_i_readRat (hM : InM gl) (hR : InR gl) (hS : InS gl) : Valid Go.Proofs.Tryd.prog gl 17 ct_i_readRat := by
  refine Valid.less (ps := [PK.ro Kd.str]) (tup := true) (rs := [(true, [RC.ro (Kd.st (Kd.pair Kd.bool (Kd.pair (Kd.sl (Kd.int IntKind.u32)) (Kd.sl (Kd.int IntKind.u32)))))]), (false, [RC.ro Kd.bool])]) (ar := []) (g := P.i_readRat) (fun k => valid (fx := ⟨⟨Go.Proofs.Tryd.prog, td, [(35, ct_strings_Cut), (36, ct_strings_CutPrefix), (38, ct_i_natOf), (39, ct_i_nat_cmp), (40, ct_i_nat_gcd), (37, ct_i_readNat)], [], []⟩, k, []⟩) (fn := Go.Proofs.Tryd.f17) (c := Go.Proofs.Tryd.f17.body.getD .skip) mixed tdOk (ctsCons (v_strings_Cut hM) (ctsCons v_strings_CutPrefix (ctsCons v_i_natOf (ctsCons v_i_nat_cmp (ctsCons v_i_nat_gcd (ctsCons (v_i_readNat hR hS) (ctsNil _ _ _ _ _))))))) Go.Proofs.Tryd.func17 (by kernel_rfl) (by kernel_rfl) (fun x => ?_)) S.i_readRat_ok
  kernel_rfl
def ct_i_rats : Ct := ⟨[PK.bo (Kd.sl Kd.str)], true, [(false, [RC.ro (Kd.sl (Kd.st (Kd.pair Kd.bool (Kd.pair (Kd.sl (Kd.int IntKind.u32)) (Kd.sl (Kd.int IntKind.u32))))))]),   (false, [RC.ro Kd.bool])], S.i_rats, []⟩
theorem v_i_rats (hM : InM gl) (hR : InR gl) (hS : InS gl) : Valid Go.Proofs.Tryd.prog gl 46 ct_i_rats := by
  refine Valid.less (ps := [PK.bo (Kd.sl Kd.str)]) (tup := true) (rs := [(false, [RC.ro (Kd.sl (Kd.st (Kd.pair Kd.bool (Kd.pair (Kd.sl (Kd.int IntKind.u32)) (Kd.sl (Kd.int IntKind.u32))))))]),   (false, [RC.ro Kd.bool])]) (ar := []) (g := P.i_rats) (fun k => valid (fx := ⟨⟨Go.Proofs.Tryd.prog, td, [(17, ct_i_readRat)], [], []⟩, k, [(5, [(15, Sp.dat false (Kd.int IntKind.i64)), (14, Sp.dat false (Kd.int IntKind.i64)), (13, Sp.dat true (Kd.sl Kd.str)),   (4, Sp.own (96) true (Kd.st (Kd.pair Kd.bool (Kd.pair (Kd.sl (Kd.int IntKind.u32)) (Kd.sl (Kd.int IntKind.u32))))))])]⟩) (fn := Go.Proofs.Tryd.f46) (c := Go.Proofs.Tryd.f46.body.getD .skip) mixed tdOk (ctsCons (v_i_readRat hM hR hS) (ctsNil _ _ _ _ _)) Go.Proofs.Tryd.func46 (by kernel_rfl) (by kernel_rfl) (fun x => ?_)) S.i_rats_ok
  kernel_rfl
def ct_i_rat_sign : Ct := ⟨[PK.bo (Kd.st (Kd.pair Kd.bool (Kd.pair (Kd.sl (Kd.int IntKind.u32)) (Kd.sl (Kd.int IntKind.u32)))))], false, [(false, [RC.ro (Kd.int IntKind.i64)])], S.i_rat_sign, []⟩
theorem v_i_rat_sign : Valid Go.Proofs.Tryd.prog gl 34 ct_i_rat_sign := by
  refine Valid.less (ps := [PK.bo (Kd.st (Kd.pair Kd.bool (Kd.pair (Kd.sl (Kd.int IntKind.u32)) (Kd.sl (Kd.int IntKind.u32)))))]) (tup := false) (rs := [(false, [RC.ro (Kd.int IntKind.i64)])]) (ar := []) (g := P.i_rat_sign) (fun k => valid (fx := ⟨⟨Go.Proofs.Tryd.prog, td, [], [], []⟩, k, []⟩) (fn := Go.Proofs.Tryd.f34) (c := Go.Proofs.Tryd.f34.body.getD .skip) mixed tdOk (ctsNil _ _ _ _ _) Go.Proofs.Tryd.func34 (by kernel_rfl) (by kernel_rfl) (fun x => ?_)) S.i_rat_sign_ok
  kernel_rfl
def ct_i_notPlus : Ct := ⟨[PK.bo (Kd.st (Kd.pair Kd.bool (Kd.pair (Kd.sl (Kd.int IntKind.u32)) (Kd.sl (Kd.int IntKind.u32)))))], false, [(false, [RC.ro Kd.bool])], S.i_notPlus, []⟩
theorem v_i_notPlus : Valid Go.Proofs.Tryd.prog gl 48 ct_i_notPlus := by
  refine Valid.less (ps := [PK.bo (Kd.st (Kd.pair Kd.bool (Kd.pair (Kd.sl (Kd.int IntKind.u32)) (Kd.sl (Kd.int IntKind.u32)))))]) (tup := false) (rs := [(false, [RC.ro Kd.bool])]) (ar := []) (g := P.i_notPlus) (fun k => valid (fx := ⟨⟨Go.Proofs.Tryd.prog, td, [(34, ct_i_rat_sign)], [], []⟩, k, []⟩) (fn := Go.Proofs.Tryd.f48) (c := Go.Proofs.Tryd.f48.body.getD .skip) mixed tdOk (ctsCons v_i_rat_sign (ctsNil _ _ _ _ _)) Go.Proofs.Tryd.func48 (by kernel_rfl) (by kernel_rfl) (fun x => ?_)) S.i_notPlus_ok
  kernel_rfl
def ct_slices_IndexFunc__i_rat_i_ratP : Ct := ⟨[PK.bo (Kd.sl (Kd.st (Kd.pair Kd.bool (Kd.pair (Kd.sl (Kd.int IntKind.u32)) (Kd.sl (Kd.int IntKind.u32)))))), PK.fn (48)], false, [(false, [RC.ro (Kd.int IntKind.i64)])], S.slices_IndexFunc__i_rat_i_ratP, []⟩
theorem v_slices_IndexFunc__i_rat_i_ratP : Valid Go.Proofs.Tryd.prog gl 65 ct_slices_IndexFunc__i_rat_i_ratP := by
  refine Valid.less (ps := [PK.bo (Kd.sl (Kd.st (Kd.pair Kd.bool (Kd.pair (Kd.sl (Kd.int IntKind.u32)) (Kd.sl (Kd.int IntKind.u32)))))), PK.fn (48)]) (tup := false) (rs := [(false, [RC.ro (Kd.int IntKind.i64)])]) (ar := []) (g := P.slices_IndexFunc__i_rat_i_ratP) (fun k => valid (fx := ⟨⟨Go.Proofs.Tryd.prog, td, [(48, ct_i_notPlus)], [], []⟩, k, [(2, [(8, Sp.dat false (Kd.int IntKind.i64)), (7, Sp.dat false (Kd.int IntKind.i64)), (1, Sp.fn (48)),   (0, Sp.dat true (Kd.sl (Kd.st (Kd.pair Kd.bool (Kd.pair (Kd.sl (Kd.int IntKind.u32)) (Kd.sl (Kd.int IntKind.u32)))))))])]⟩) (fn := Go.Proofs.Tryd.f65) (c := Go.Proofs.Tryd.f65.body.getD .skip) mixed tdOk (ctsCons v_i_notPlus (ctsNil _ _ _ _ _)) Go.Proofs.Tryd.func65 (by kernel_rfl) (by kernel_rfl) (fun x => ?_)) S.slices_IndexFunc__i_rat_i_ratP_ok
  kernel_rfl
def ct_slices_ContainsFunc__i_rat_i_ratP : Ct := ⟨[PK.bo (Kd.sl (Kd.st (Kd.pair Kd.bool (Kd.pair (Kd.sl (Kd.int IntKind.u32)) (Kd.sl (Kd.int IntKind.u32)))))), PK.fn (48)], false, [(false, [RC.ro Kd.bool])], S.slices_ContainsFunc__i_rat_i_ratP, []⟩
theorem v_slices_ContainsFunc__i_rat_i_ratP : Valid Go.Proofs.Tryd.prog gl 47 ct_slices_ContainsFunc__i_rat_i_ratP := by
  refine Valid.less (ps := [PK.bo (Kd.sl (Kd.st (Kd.pair Kd.bool (Kd.pair (Kd.sl (Kd.int IntKind.u32)) (Kd.sl (Kd.int IntKind.u32)))))), PK.fn (48)]) (tup := false) (rs := [(false, [RC.ro Kd.bool])]) (ar := []) (g := P.slices_ContainsFunc__i_rat_i_ratP) (fun k => valid (fx := ⟨⟨Go.Proofs.Tryd.prog, td, [(48, ct_i_notPlus), (65, ct_slices_IndexFunc__i_rat_i_ratP)], [], []⟩, k, []⟩) (fn := Go.Proofs.Tryd.f47) (c := Go.Proofs.Tryd.f47.body.getD .skip) mixed tdOk (ctsCons v_i_notPlus (ctsCons v_slices_IndexFunc__i_rat_i_ratP (ctsNil _ _ _ _ _))) Go.Proofs.Tryd.func47 (by kernel_rfl) (by kernel_rfl) (fun x => ?_)) S.slices_ContainsFunc__i_rat_i_ratP_ok
  kernel_rfl
def ct_i_lineOf : Ct := ⟨[PK.bo (Kd.st (Kd.pair (Kd.sl Kd.str) (Kd.sl Kd.str)))], true, [(true,     [RC.ro         (Kd.st           (Kd.pair (Kd.sl (Kd.st (Kd.pair Kd.bool (Kd.pair (Kd.sl (Kd.int IntKind.u32)) (Kd.sl (Kd.int IntKind.u32))))))             (Kd.sl (Kd.st (Kd.pair Kd.bool (Kd.pair (Kd.sl (Kd.int IntKind.u32)) (Kd.sl (Kd.int IntKind.u32))))))))]),   (false, [RC.ro Kd.bool])], S.i_lineOf, []⟩
theorem v_i_lineOf (hM : InM gl) (hR : InR gl) (hS : InS gl) : Valid Go.Proofs.Tryd.prog gl 22 ct_i_lineOf := by
  refine Valid.less (ps := [PK.bo (Kd.st (Kd.pair (Kd.sl Kd.str) (Kd.sl Kd.str)))]) (tup := true) (rs := [(true,     [RC.ro         (Kd.st           (Kd.pair (Kd.sl (Kd.st (Kd.pair Kd.bool (Kd.pair (Kd.sl (Kd.int IntKind.u32)) (Kd.sl (Kd.int IntKind.u32))))))             (Kd.sl (Kd.st (Kd.pair Kd.bool (Kd.pair (Kd.sl (Kd.int IntKind.u32)) (Kd.sl (Kd.int IntKind.u32))))))))]),   (false, [RC.ro Kd.bool])]) (ar := []) (g := P.i_lineOf) (fun k => valid (fx := ⟨⟨Go.Proofs.Tryd.prog, td, [(46, ct_i_rats), (48, ct_i_notPlus), (47, ct_slices_ContainsFunc__i_rat_i_ratP)], [], []⟩, k, []⟩) (fn := Go.Proofs.Tryd.f22) (c := Go.Proofs.Tryd.f22.body.getD .skip) mixed tdOk (ctsCons (v_i_rats hM hR hS) (ctsCons v_i_notPlus (ctsCons v_slices_ContainsFunc__i_rat_i_ratP (ctsNil _ _ _ _ _)))) Go.Proofs.Tryd.func22 (by kernel_rfl) (by kernel_rfl) (fun x => ?_)) S.i_lineOf_ok
  kernel_rfl
def ct_i_ValidLine : Ct := ⟨[PK.bo (Kd.st (Kd.pair (Kd.sl Kd.str) (Kd.sl Kd.str)))], false, [(false, [RC.ro Kd.bool])], S.i_ValidLine, []⟩
theorem v_i_ValidLine (hM : InM gl) (hR : InR gl) (hS : InS gl) : Valid Go.Proofs.Tryd.prog gl 10 ct_i_ValidLine := by
  refine Valid.less (ps := [PK.bo (Kd.st (Kd.pair (Kd.sl Kd.str) (Kd.sl Kd.str)))]) (tup := false) (rs := [(false, [RC.ro Kd.bool])]) (ar := []) (g := P.i_ValidLine) (fun k => valid (fx := ⟨⟨Go.Proofs.Tryd.prog, td, [(22, ct_i_lineOf)], [], []⟩, k, []⟩) (fn := Go.Proofs.Tryd.f10) (c := Go.Proofs.Tryd.f10.body.getD .skip) mixed tdOk (ctsCons (v_i_lineOf hM hR hS) (ctsNil _ _ _ _ _)) Go.Proofs.Tryd.func10 (by kernel_rfl) (by kernel_rfl) (fun x => ?_)) S.i_ValidLine_ok
  kernel_rfl
def ct_l_FnExactValidLine : Ct := ⟨[PK.bo (Kd.st (Kd.pair (Kd.sl Kd.str) (Kd.sl Kd.str)))], false, [(false, [RC.ro Kd.bool])], S.l_FnExactValidLine, []⟩
theorem v_l_FnExactValidLine (hM : InM gl) (hR : InR gl) (hS : InS gl) : Valid Go.Proofs.Tryd.prog gl 4 ct_l_FnExactValidLine := by
  refine Valid.less (ps := [PK.bo (Kd.st (Kd.pair (Kd.sl Kd.str) (Kd.sl Kd.str)))]) (tup := false) (rs := [(false, [RC.ro Kd.bool])]) (ar := []) (g := P.l_FnExactValidLine) (fun k => valid (fx := ⟨⟨Go.Proofs.Tryd.prog, td, [(7, ct_l_szLine), (9, ct_l_toLine), (11, ct_l_intactLine), (8, ct_s_ValidLine), (10, ct_i_ValidLine)], [], []⟩, k, []⟩) (fn := Go.Proofs.Tryd.f4) (c := Go.Proofs.Tryd.f4.body.getD .skip) mixed tdOk (ctsCons v_l_szLine (ctsCons v_l_toLine (ctsCons v_l_intactLine (ctsCons v_s_ValidLine (ctsCons (v_i_ValidLine hM hR hS) (ctsNil _ _ _ _ _)))))) Go.Proofs.Tryd.func4 (by kernel_rfl) (by kernel_rfl) (fun x => ?_)) S.l_FnExactValidLine_ok
  kernel_rfl
end Go.Cm.LnValidLine
end
