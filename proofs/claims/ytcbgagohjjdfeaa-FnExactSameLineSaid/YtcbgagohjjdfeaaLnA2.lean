import Derived.Test.YtcbgagohjjdfeaaPlA2
import Derived.Test.YtcbgagohjjdfeaaChecked
set_option linter.unusedVariables false
set_option maxRecDepth 100000
noncomputable section
namespace Go.Cm.LnA2
variable {gl : List (Nat × List Value)}
theorem td3 : TdOk Go.Proofs.Try.prog 3 ⟨Kd.int IntKind.i64, 8, false, 0, []⟩ := .of (by kernel_rfl) (.inr (by kernel_rfl)) rfl (Go.Proofs.Try.underlying3)
theorem td4 : TdOk Go.Proofs.Try.prog 4 ⟨Kd.bool, 1, false, 0, []⟩ := .of (by kernel_rfl) (.inr (by kernel_rfl)) rfl (Go.Proofs.Try.underlying4)
theorem td9 : TdOk Go.Proofs.Try.prog 9 ⟨Kd.str, 16, false, 0, []⟩ := .of (by kernel_rfl) (.inr (by kernel_rfl)) rfl (Go.Proofs.Try.underlying9)
theorem td27 : TdOk Go.Proofs.Try.prog 27 ⟨Kd.sl Kd.str, 24, false, 9, []⟩ := .of (by kernel_rfl) (.inr (by kernel_rfl)) rfl (Go.Proofs.Try.underlying27)
theorem td29 : TdOk Go.Proofs.Try.prog 29 ⟨Kd.st (Kd.pair (Kd.sl Kd.str) (Kd.sl Kd.str)), 48, true, 0, [(0, 27), (1, 27)]⟩ := .of (by kernel_rfl) (.inr (by kernel_rfl)) rfl (⟨_, Go.Proofs.Try.underlying29, by kernel_rfl, by kernel_rfl⟩)
theorem td32 : TdOk Go.Proofs.Try.prog 32 ⟨Kd.st (Kd.pair (Kd.sl Kd.str) (Kd.sl Kd.str)), 48, true, 0, [(0, 27), (1, 27)]⟩ := .of (by kernel_rfl) (.inr (by kernel_rfl)) rfl (⟨_, Go.Proofs.Try.underlying32, by kernel_rfl, by kernel_rfl⟩)
def td : List (Nat × Td) := [(3, ⟨Kd.int IntKind.i64, 8, false, 0, []⟩), (4, ⟨Kd.bool, 1, false, 0, []⟩), (9, ⟨Kd.str, 16, false, 0, []⟩), (27, ⟨Kd.sl Kd.str, 24, false, 9, []⟩), (29, ⟨Kd.st (Kd.pair (Kd.sl Kd.str) (Kd.sl Kd.str)), 48, true, 0, [(0, 27), (1, 27)]⟩), (32, ⟨Kd.st (Kd.pair (Kd.sl Kd.str) (Kd.sl Kd.str)), 48, true, 0, [(0, 27), (1, 27)]⟩)]
theorem tdOk : TdsOk ⟨Go.Proofs.Try.prog, td, [], []⟩ Go.Proofs.Try.prog := tdsCons td3 (tdsCons td4 (tdsCons td9 (tdsCons td27 (tdsCons td29 (tdsCons td32 (tdsNil _ _ _ _))))))
theorem mixed : Go.Proofs.Try.prog.follows .mixedOrders = true := by kernel_rfl
def ct_l_szStringS : Ct := ⟨[PK.bo (Kd.sl Kd.str), PK.ro (Kd.int IntKind.i64)], false, [(false, [RC.ro (Kd.int IntKind.i64)])], S.l_szStringS⟩
theorem v_l_szStringS : Valid Go.Proofs.Try.prog gl 25 ct_l_szStringS := by
  refine Valid.less (ps := [PK.bo (Kd.sl Kd.str), PK.ro (Kd.int IntKind.i64)]) (tup := false) (rs := [(false, [RC.ro (Kd.int IntKind.i64)])]) (g := P.l_szStringS) (fun k => valid (fx := ⟨⟨Go.Proofs.Try.prog, td, [], []⟩, k, [(5, [(5, Sp.dat false (Kd.int IntKind.i64)), (0, Sp.dat true (Kd.sl Kd.str)),   (1, Sp.dat false (Kd.int IntKind.i64))])]⟩) (fn := Go.Proofs.Try.f25) (c := Go.Proofs.Try.f25.body.getD .skip) mixed tdOk (ctsNil _ _ _ _ _) Go.Proofs.Try.func25 (by kernel_rfl) (by kernel_rfl) (fun x => ?_)) S.l_szStringS_ok
  kernel_rfl
def ct_l_szLine : Ct := ⟨[PK.bo (Kd.st (Kd.pair (Kd.sl Kd.str) (Kd.sl Kd.str))), PK.ro (Kd.int IntKind.i64)], false, [(false, [RC.ro (Kd.int IntKind.i64)])], S.l_szLine⟩
theorem v_l_szLine : Valid Go.Proofs.Try.prog gl 12 ct_l_szLine := by
  refine Valid.less (ps := [PK.bo (Kd.st (Kd.pair (Kd.sl Kd.str) (Kd.sl Kd.str))), PK.ro (Kd.int IntKind.i64)]) (tup := false) (rs := [(false, [RC.ro (Kd.int IntKind.i64)])]) (g := P.l_szLine) (fun k => valid (fx := ⟨⟨Go.Proofs.Try.prog, td, [(25, ct_l_szStringS)], []⟩, k, []⟩) (fn := Go.Proofs.Try.f12) (c := Go.Proofs.Try.f12.body.getD .skip) mixed tdOk (ctsCons v_l_szStringS (ctsNil _ _ _ _ _)) Go.Proofs.Try.func12 (by kernel_rfl) (by kernel_rfl) (fun x => ?_)) S.l_szLine_ok
  kernel_rfl
def ct_l_roomBehind : Ct := ⟨[PK.ro (Kd.int IntKind.i64)], false, [(false, [RC.ro (Kd.int IntKind.i64)])], S.l_roomBehind⟩
theorem v_l_roomBehind : Valid Go.Proofs.Try.prog gl 36 ct_l_roomBehind := by
  refine Valid.less (ps := [PK.ro (Kd.int IntKind.i64)]) (tup := false) (rs := [(false, [RC.ro (Kd.int IntKind.i64)])]) (g := P.l_roomBehind) (fun k => valid (fx := ⟨⟨Go.Proofs.Try.prog, td, [], []⟩, k, []⟩) (fn := Go.Proofs.Try.f36) (c := Go.Proofs.Try.f36.body.getD .skip) mixed tdOk (ctsNil _ _ _ _ _) Go.Proofs.Try.func36 (by kernel_rfl) (by kernel_rfl) (fun x => ?_)) S.l_roomBehind_ok
  kernel_rfl
def ct_l_toStringS : Ct := ⟨[PK.bo (Kd.sl Kd.str), PK.ro Kd.bool], false, [(false, [RC.ro (Kd.sv Kd.str)])], S.l_toStringS⟩
theorem v_l_toStringS : Valid Go.Proofs.Try.prog gl 27 ct_l_toStringS := by
  refine Valid.less (ps := [PK.bo (Kd.sl Kd.str), PK.ro Kd.bool]) (tup := false) (rs := [(false, [RC.ro (Kd.sv Kd.str)])]) (g := P.l_toStringS) (fun k => valid (fx := ⟨⟨Go.Proofs.Try.prog, td, [(36, ct_l_roomBehind)], []⟩, k, [(9, [(7, Sp.dat false (Kd.int IntKind.i64)), (5, Sp.own (160) true Kd.str), (0, Sp.dat true (Kd.sl Kd.str))]), (5, [(6, Sp.dat false (Kd.int IntKind.i64)), (0, Sp.dat true (Kd.sl Kd.str)), (5, Sp.own (160) true Kd.str)])]⟩) (fn := Go.Proofs.Try.f27) (c := Go.Proofs.Try.f27.body.getD .skip) mixed tdOk (ctsCons v_l_roomBehind (ctsNil _ _ _ _ _)) Go.Proofs.Try.func27 (by kernel_rfl) (by kernel_rfl) (fun x => ?_)) S.l_toStringS_ok
  kernel_rfl
def ct_l_toLine : Ct := ⟨[PK.bo (Kd.st (Kd.pair (Kd.sl Kd.str) (Kd.sl Kd.str))), PK.ro Kd.bool], false, [(true, [RC.ro (Kd.st (Kd.pair (Kd.sv Kd.str) (Kd.sv Kd.str)))])], S.l_toLine⟩
theorem v_l_toLine : Valid Go.Proofs.Try.prog gl 14 ct_l_toLine := by
  refine Valid.less (ps := [PK.bo (Kd.st (Kd.pair (Kd.sl Kd.str) (Kd.sl Kd.str))), PK.ro Kd.bool]) (tup := false) (rs := [(true, [RC.ro (Kd.st (Kd.pair (Kd.sv Kd.str) (Kd.sv Kd.str)))])]) (g := P.l_toLine) (fun k => valid (fx := ⟨⟨Go.Proofs.Try.prog, td, [(27, ct_l_toStringS)], []⟩, k, []⟩) (fn := Go.Proofs.Try.f14) (c := Go.Proofs.Try.f14.body.getD .skip) mixed tdOk (ctsCons v_l_toStringS (ctsNil _ _ _ _ _)) Go.Proofs.Try.func14 (by kernel_rfl) (by kernel_rfl) (fun x => ?_)) S.l_toLine_ok
  kernel_rfl
def ct_l_eqStringS : Ct := ⟨[PK.bo (Kd.sl Kd.str), PK.bo (Kd.sl Kd.str)], false, [(false, [RC.ro Kd.bool])], S.l_eqStringS⟩
theorem v_l_eqStringS : Valid Go.Proofs.Try.prog gl 37 ct_l_eqStringS := by
  refine Valid.less (ps := [PK.bo (Kd.sl Kd.str), PK.bo (Kd.sl Kd.str)]) (tup := false) (rs := [(false, [RC.ro Kd.bool])]) (g := P.l_eqStringS) (fun k => valid (fx := ⟨⟨Go.Proofs.Try.prog, td, [], []⟩, k, [(4, [(5, Sp.dat false (Kd.int IntKind.i64)), (0, Sp.dat true (Kd.sl Kd.str)),   (1, Sp.dat true (Kd.sl Kd.str))])]⟩) (fn := Go.Proofs.Try.f37) (c := Go.Proofs.Try.f37.body.getD .skip) mixed tdOk (ctsNil _ _ _ _ _) Go.Proofs.Try.func37 (by kernel_rfl) (by kernel_rfl) (fun x => ?_)) S.l_eqStringS_ok
  kernel_rfl
def ct_l_intactStringS : Ct := ⟨[PK.bo (Kd.sv Kd.str), PK.bo (Kd.sv Kd.str)], false, [(false, [RC.ro Kd.bool])], S.l_intactStringS⟩
theorem v_l_intactStringS : Valid Go.Proofs.Try.prog gl 29 ct_l_intactStringS := by
  refine Valid.less (ps := [PK.bo (Kd.sv Kd.str), PK.bo (Kd.sv Kd.str)]) (tup := false) (rs := [(false, [RC.ro Kd.bool])]) (g := P.l_intactStringS) (fun k => valid (fx := ⟨⟨Go.Proofs.Try.prog, td, [(36, ct_l_roomBehind), (37, ct_l_eqStringS)], []⟩, k, []⟩) (fn := Go.Proofs.Try.f29) (c := Go.Proofs.Try.f29.body.getD .skip) mixed tdOk (ctsCons v_l_roomBehind (ctsCons v_l_eqStringS (ctsNil _ _ _ _ _))) Go.Proofs.Try.func29 (by kernel_rfl) (by kernel_rfl) (fun x => ?_)) S.l_intactStringS_ok
  kernel_rfl
def ct_l_intactLine : Ct := ⟨[PK.bo (Kd.st (Kd.pair (Kd.sv Kd.str) (Kd.sv Kd.str))), PK.bo (Kd.st (Kd.pair (Kd.sv Kd.str) (Kd.sv Kd.str)))], false, [(false, [RC.ro Kd.bool])], S.l_intactLine⟩
theorem v_l_intactLine : Valid Go.Proofs.Try.prog gl 16 ct_l_intactLine := by
  refine Valid.less (ps := [PK.bo (Kd.st (Kd.pair (Kd.sv Kd.str) (Kd.sv Kd.str))), PK.bo (Kd.st (Kd.pair (Kd.sv Kd.str) (Kd.sv Kd.str)))]) (tup := false) (rs := [(false, [RC.ro Kd.bool])]) (g := P.l_intactLine) (fun k => valid (fx := ⟨⟨Go.Proofs.Try.prog, td, [(29, ct_l_intactStringS)], []⟩, k, []⟩) (fn := Go.Proofs.Try.f16) (c := Go.Proofs.Try.f16.body.getD .skip) mixed tdOk (ctsCons v_l_intactStringS (ctsNil _ _ _ _ _)) Go.Proofs.Try.func16 (by kernel_rfl) (by kernel_rfl) (fun x => ?_)) S.l_intactLine_ok
  kernel_rfl
def ct_s_l02Texts : Ct := ⟨[PK.bo (Kd.sl Kd.str), PK.bo (Kd.sl Kd.str)], false, [(false, [RC.ro Kd.bool])], S.s_l02Texts⟩
theorem v_s_l02Texts : Valid Go.Proofs.Try.prog gl 26 ct_s_l02Texts := by
  refine Valid.less (ps := [PK.bo (Kd.sl Kd.str), PK.bo (Kd.sl Kd.str)]) (tup := false) (rs := [(false, [RC.ro Kd.bool])]) (g := P.s_l02Texts) (fun k => valid (fx := ⟨⟨Go.Proofs.Try.prog, td, [], []⟩, k, [(4, [(5, Sp.dat false (Kd.int IntKind.i64)), (0, Sp.dat true (Kd.sl Kd.str)),   (1, Sp.dat true (Kd.sl Kd.str))])]⟩) (fn := Go.Proofs.Try.f26) (c := Go.Proofs.Try.f26.body.getD .skip) mixed tdOk (ctsNil _ _ _ _ _) Go.Proofs.Try.func26 (by kernel_rfl) (by kernel_rfl) (fun x => ?_)) S.s_l02Texts_ok
  kernel_rfl
def ct_s_SameLine : Ct := ⟨[PK.bo (Kd.st (Kd.pair (Kd.sl Kd.str) (Kd.sl Kd.str))), PK.bo (Kd.st (Kd.pair (Kd.sl Kd.str) (Kd.sl Kd.str)))], false, [(false, [RC.ro Kd.bool])], S.s_SameLine⟩
theorem v_s_SameLine : Valid Go.Proofs.Try.prog gl 13 ct_s_SameLine := by
  refine Valid.less (ps := [PK.bo (Kd.st (Kd.pair (Kd.sl Kd.str) (Kd.sl Kd.str))), PK.bo (Kd.st (Kd.pair (Kd.sl Kd.str) (Kd.sl Kd.str)))]) (tup := false) (rs := [(false, [RC.ro Kd.bool])]) (g := P.s_SameLine) (fun k => valid (fx := ⟨⟨Go.Proofs.Try.prog, td, [(26, ct_s_l02Texts)], []⟩, k, []⟩) (fn := Go.Proofs.Try.f13) (c := Go.Proofs.Try.f13.body.getD .skip) mixed tdOk (ctsCons v_s_l02Texts (ctsNil _ _ _ _ _)) Go.Proofs.Try.func13 (by kernel_rfl) (by kernel_rfl) (fun x => ?_)) S.s_SameLine_ok
  kernel_rfl
def ct_slices_Equal__string_string : Ct := ⟨[PK.bo (Kd.sl Kd.str), PK.bo (Kd.sl Kd.str)], false, [(false, [RC.ro Kd.bool])], S.slices_Equal__string_string⟩
theorem v_slices_Equal__string_string : Valid Go.Proofs.Try.prog gl 28 ct_slices_Equal__string_string := by
  refine Valid.less (ps := [PK.bo (Kd.sl Kd.str), PK.bo (Kd.sl Kd.str)]) (tup := false) (rs := [(false, [RC.ro Kd.bool])]) (g := P.slices_Equal__string_string) (fun k => valid (fx := ⟨⟨Go.Proofs.Try.prog, td, [], []⟩, k, [(4, [(13, Sp.dat false (Kd.int IntKind.i64)), (12, Sp.dat false (Kd.int IntKind.i64)),   (0, Sp.dat true (Kd.sl Kd.str)), (1, Sp.dat true (Kd.sl Kd.str))])]⟩) (fn := Go.Proofs.Try.f28) (c := Go.Proofs.Try.f28.body.getD .skip) mixed tdOk (ctsNil _ _ _ _ _) Go.Proofs.Try.func28 (by kernel_rfl) (by kernel_rfl) (fun x => ?_)) S.slices_Equal__string_string_ok
  kernel_rfl
def ct_i_SameLine : Ct := ⟨[PK.bo (Kd.st (Kd.pair (Kd.sl Kd.str) (Kd.sl Kd.str))), PK.bo (Kd.st (Kd.pair (Kd.sl Kd.str) (Kd.sl Kd.str)))], false, [(false, [RC.ro Kd.bool])], S.i_SameLine⟩
theorem v_i_SameLine : Valid Go.Proofs.Try.prog gl 15 ct_i_SameLine := by
  refine Valid.less (ps := [PK.bo (Kd.st (Kd.pair (Kd.sl Kd.str) (Kd.sl Kd.str))), PK.bo (Kd.st (Kd.pair (Kd.sl Kd.str) (Kd.sl Kd.str)))]) (tup := false) (rs := [(false, [RC.ro Kd.bool])]) (g := P.i_SameLine) (fun k => valid (fx := ⟨⟨Go.Proofs.Try.prog, td, [(28, ct_slices_Equal__string_string)], []⟩, k, []⟩) (fn := Go.Proofs.Try.f15) (c := Go.Proofs.Try.f15.body.getD .skip) mixed tdOk (ctsCons v_slices_Equal__string_string (ctsNil _ _ _ _ _)) Go.Proofs.Try.func15 (by kernel_rfl) (by kernel_rfl) (fun x => ?_)) S.i_SameLine_ok
  kernel_rfl
def ct_l_FnExactSameLine : Ct := ⟨[PK.bo (Kd.st (Kd.pair (Kd.sl Kd.str) (Kd.sl Kd.str))), PK.bo (Kd.st (Kd.pair (Kd.sl Kd.str) (Kd.sl Kd.str)))], false, [(false, [RC.ro Kd.bool])], S.l_FnExactSameLine⟩
theorem v_l_FnExactSameLine : Valid Go.Proofs.Try.prog gl 6 ct_l_FnExactSameLine := by
  refine Valid.less (ps := [PK.bo (Kd.st (Kd.pair (Kd.sl Kd.str) (Kd.sl Kd.str))), PK.bo (Kd.st (Kd.pair (Kd.sl Kd.str) (Kd.sl Kd.str)))]) (tup := false) (rs := [(false, [RC.ro Kd.bool])]) (g := P.l_FnExactSameLine) (fun k => valid (fx := ⟨⟨Go.Proofs.Try.prog, td, [(12, ct_l_szLine), (14, ct_l_toLine), (16, ct_l_intactLine), (13, ct_s_SameLine), (15, ct_i_SameLine)], []⟩, k, []⟩) (fn := Go.Proofs.Try.f6) (c := Go.Proofs.Try.f6.body.getD .skip) mixed tdOk (ctsCons v_l_szLine (ctsCons v_l_toLine (ctsCons v_l_intactLine (ctsCons v_s_SameLine (ctsCons v_i_SameLine (ctsNil _ _ _ _ _)))))) Go.Proofs.Try.func6 (by kernel_rfl) (by kernel_rfl) (fun x => ?_)) S.l_FnExactSameLine_ok
  kernel_rfl
end Go.Cm.LnA2
end
