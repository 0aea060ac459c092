import Derived.Test.YtcbgagohjjdfeaaPlA3
import Derived.Test.YtcbgagohjjdfeaaChecked
set_option linter.unusedVariables false
set_option maxRecDepth 100000
noncomputable section
namespace Go.Cm.LnA3
variable {gl : List (Nat × List Value)}
theorem td3 : TdOk Go.Proofs.Try.prog 3 ⟨Kd.int IntKind.i64, 8, false, 0, []⟩ := .of (by kernel_rfl) (.inr (by kernel_rfl)) rfl (Go.Proofs.Try.underlying3)
theorem td4 : TdOk Go.Proofs.Try.prog 4 ⟨Kd.bool, 1, false, 0, []⟩ := .of (by kernel_rfl) (.inr (by kernel_rfl)) rfl (Go.Proofs.Try.underlying4)
theorem td9 : TdOk Go.Proofs.Try.prog 9 ⟨Kd.str, 16, false, 0, []⟩ := .of (by kernel_rfl) (.inr (by kernel_rfl)) rfl (Go.Proofs.Try.underlying9)
theorem td27 : TdOk Go.Proofs.Try.prog 27 ⟨Kd.sl Kd.str, 24, false, 9, []⟩ := .of (by kernel_rfl) (.inr (by kernel_rfl)) rfl (Go.Proofs.Try.underlying27)
theorem td35 : TdOk Go.Proofs.Try.prog 35 ⟨Kd.sl (Kd.sl Kd.str), 24, false, 27, []⟩ := .of (by kernel_rfl) (.inr (by kernel_rfl)) rfl (Go.Proofs.Try.underlying35)
theorem td37 : TdOk Go.Proofs.Try.prog 37 ⟨Kd.st (Kd.sl (Kd.sl Kd.str)), 24, true, 0, [(0, 35)]⟩ := .of (by kernel_rfl) (.inr (by kernel_rfl)) rfl (⟨_, Go.Proofs.Try.underlying37, by kernel_rfl, by kernel_rfl⟩)
theorem td40 : TdOk Go.Proofs.Try.prog 40 ⟨Kd.st (Kd.sl (Kd.sl Kd.str)), 24, true, 0, [(0, 35)]⟩ := .of (by kernel_rfl) (.inr (by kernel_rfl)) rfl (⟨_, Go.Proofs.Try.underlying40, by kernel_rfl, by kernel_rfl⟩)
theorem td50 : TdOk Go.Proofs.Try.prog 50 ⟨Kd.pt (Kd.st (Kd.sl (Kd.sl Kd.str))), 8, false, 0, []⟩ := .of (by kernel_rfl) (.inl rfl) rfl (⟨_, Go.Proofs.Try.underlying50⟩)
def td : List (Nat × Td) := [(3, ⟨Kd.int IntKind.i64, 8, false, 0, []⟩), (4, ⟨Kd.bool, 1, false, 0, []⟩), (9, ⟨Kd.str, 16, false, 0, []⟩), (27, ⟨Kd.sl Kd.str, 24, false, 9, []⟩), (35, ⟨Kd.sl (Kd.sl Kd.str), 24, false, 27, []⟩), (37, ⟨Kd.st (Kd.sl (Kd.sl Kd.str)), 24, true, 0, [(0, 35)]⟩), (40, ⟨Kd.st (Kd.sl (Kd.sl Kd.str)), 24, true, 0, [(0, 35)]⟩), (50, ⟨Kd.pt (Kd.st (Kd.sl (Kd.sl Kd.str))), 8, false, 0, []⟩)]
theorem tdOk : TdsOk ⟨Go.Proofs.Try.prog, td, [], []⟩ Go.Proofs.Try.prog := tdsCons td3 (tdsCons td4 (tdsCons td9 (tdsCons td27 (tdsCons td35 (tdsCons td37 (tdsCons td40 (tdsCons td50 (tdsNil _ _ _ _))))))))
theorem mixed : Go.Proofs.Try.prog.follows .mixedOrders = true := by kernel_rfl
def ct_l_szStringS : Ct := ⟨[PK.bo (Kd.sl Kd.str), PK.ro (Kd.int IntKind.i64)], false, [(false, [RC.ro (Kd.int IntKind.i64)])], S.l_szStringS⟩
theorem v_l_szStringS : Valid Go.Proofs.Try.prog gl 25 ct_l_szStringS := by
  refine Valid.less (ps := [PK.bo (Kd.sl Kd.str), PK.ro (Kd.int IntKind.i64)]) (tup := false) (rs := [(false, [RC.ro (Kd.int IntKind.i64)])]) (g := P.l_szStringS) (fun k => valid (fx := ⟨⟨Go.Proofs.Try.prog, td, [], []⟩, k, [(5, [(5, Sp.dat false (Kd.int IntKind.i64)), (0, Sp.dat true (Kd.sl Kd.str)),   (1, Sp.dat false (Kd.int IntKind.i64))])]⟩) (fn := Go.Proofs.Try.f25) (c := Go.Proofs.Try.f25.body.getD .skip) mixed tdOk (ctsNil _ _ _ _ _) Go.Proofs.Try.func25 (by kernel_rfl) (by kernel_rfl) (fun x => ?_)) S.l_szStringS_ok
  kernel_rfl
def ct_l_szStringSS : Ct := ⟨[PK.bo (Kd.sl (Kd.sl Kd.str)), PK.ro (Kd.int IntKind.i64)], false, [(false, [RC.ro (Kd.int IntKind.i64)])], S.l_szStringSS⟩
theorem v_l_szStringSS : Valid Go.Proofs.Try.prog gl 30 ct_l_szStringSS := by
  refine Valid.less (ps := [PK.bo (Kd.sl (Kd.sl Kd.str)), PK.ro (Kd.int IntKind.i64)]) (tup := false) (rs := [(false, [RC.ro (Kd.int IntKind.i64)])]) (g := P.l_szStringSS) (fun k => valid (fx := ⟨⟨Go.Proofs.Try.prog, td, [(25, ct_l_szStringS)], []⟩, k, [(5, [(5, Sp.dat false (Kd.int IntKind.i64)), (0, Sp.dat true (Kd.sl (Kd.sl Kd.str))),   (1, Sp.dat false (Kd.int IntKind.i64))])]⟩) (fn := Go.Proofs.Try.f30) (c := Go.Proofs.Try.f30.body.getD .skip) mixed tdOk (ctsCons v_l_szStringS (ctsNil _ _ _ _ _)) Go.Proofs.Try.func30 (by kernel_rfl) (by kernel_rfl) (fun x => ?_)) S.l_szStringSS_ok
  kernel_rfl
def ct_l_szChain : Ct := ⟨[PK.bo (Kd.st (Kd.sl (Kd.sl Kd.str))), PK.ro (Kd.int IntKind.i64)], false, [(false, [RC.ro (Kd.int IntKind.i64)])], S.l_szChain⟩
theorem v_l_szChain : Valid Go.Proofs.Try.prog gl 17 ct_l_szChain := by
  refine Valid.less (ps := [PK.bo (Kd.st (Kd.sl (Kd.sl Kd.str))), PK.ro (Kd.int IntKind.i64)]) (tup := false) (rs := [(false, [RC.ro (Kd.int IntKind.i64)])]) (g := P.l_szChain) (fun k => valid (fx := ⟨⟨Go.Proofs.Try.prog, td, [(30, ct_l_szStringSS)], []⟩, k, []⟩) (fn := Go.Proofs.Try.f17) (c := Go.Proofs.Try.f17.body.getD .skip) mixed tdOk (ctsCons v_l_szStringSS (ctsNil _ _ _ _ _)) Go.Proofs.Try.func17 (by kernel_rfl) (by kernel_rfl) (fun x => ?_)) S.l_szChain_ok
  kernel_rfl
def ct_l_roomBehind : Ct := ⟨[PK.ro (Kd.int IntKind.i64)], false, [(false, [RC.ro (Kd.int IntKind.i64)])], S.l_roomBehind⟩
theorem v_l_roomBehind : Valid Go.Proofs.Try.prog gl 36 ct_l_roomBehind := by
  refine Valid.less (ps := [PK.ro (Kd.int IntKind.i64)]) (tup := false) (rs := [(false, [RC.ro (Kd.int IntKind.i64)])]) (g := P.l_roomBehind) (fun k => valid (fx := ⟨⟨Go.Proofs.Try.prog, td, [], []⟩, k, []⟩) (fn := Go.Proofs.Try.f36) (c := Go.Proofs.Try.f36.body.getD .skip) mixed tdOk (ctsNil _ _ _ _ _) Go.Proofs.Try.func36 (by kernel_rfl) (by kernel_rfl) (fun x => ?_)) S.l_roomBehind_ok
  kernel_rfl
def ct_l_toStringS : Ct := ⟨[PK.bo (Kd.sl Kd.str), PK.ro Kd.bool], false, [(false, [RC.ro (Kd.sv Kd.str)])], S.l_toStringS⟩
theorem v_l_toStringS : Valid Go.Proofs.Try.prog gl 27 ct_l_toStringS := by
  refine Valid.less (ps := [PK.bo (Kd.sl Kd.str), PK.ro Kd.bool]) (tup := false) (rs := [(false, [RC.ro (Kd.sv Kd.str)])]) (g := P.l_toStringS) (fun k => valid (fx := ⟨⟨Go.Proofs.Try.prog, td, [(36, ct_l_roomBehind)], []⟩, k, [(9, [(7, Sp.dat false (Kd.int IntKind.i64)), (5, Sp.own (160) true Kd.str), (0, Sp.dat true (Kd.sl Kd.str))]), (5, [(6, Sp.dat false (Kd.int IntKind.i64)), (0, Sp.dat true (Kd.sl Kd.str)), (5, Sp.own (160) true Kd.str)])]⟩) (fn := Go.Proofs.Try.f27) (c := Go.Proofs.Try.f27.body.getD .skip) mixed tdOk (ctsCons v_l_roomBehind (ctsNil _ _ _ _ _)) Go.Proofs.Try.func27 (by kernel_rfl) (by kernel_rfl) (fun x => ?_)) S.l_toStringS_ok
  kernel_rfl
def ct_l_toStringSS : Ct := ⟨[PK.bo (Kd.sl (Kd.sl Kd.str)), PK.ro Kd.bool], false, [(false, [RC.ro (Kd.sv (Kd.sv Kd.str))])], S.l_toStringSS⟩
theorem v_l_toStringSS : Valid Go.Proofs.Try.prog gl 32 ct_l_toStringSS := by
  refine Valid.less (ps := [PK.bo (Kd.sl (Kd.sl Kd.str)), PK.ro Kd.bool]) (tup := false) (rs := [(false, [RC.ro (Kd.sv (Kd.sv Kd.str))])]) (g := P.l_toStringSS) (fun k => valid (fx := ⟨⟨Go.Proofs.Try.prog, td, [(36, ct_l_roomBehind), (27, ct_l_toStringS)], [20]⟩, k, [(9, [(7, Sp.dat false (Kd.int IntKind.i64)), (5, Sp.own (160) true (Kd.sv Kd.str)),   (0, Sp.dat true (Kd.sl (Kd.sl Kd.str)))]), (5, [(6, Sp.dat false (Kd.int IntKind.i64)), (0, Sp.dat true (Kd.sl (Kd.sl Kd.str))),   (5, Sp.own (160) true (Kd.sv Kd.str)), (1, Sp.dat false Kd.bool)])]⟩) (fn := Go.Proofs.Try.f32) (c := Go.Proofs.Try.f32.body.getD .skip) mixed tdOk (ctsCons v_l_roomBehind (ctsCons v_l_toStringS (ctsNil _ _ _ _ _))) Go.Proofs.Try.func32 (by kernel_rfl) (by kernel_rfl) (fun x => ?_)) S.l_toStringSS_ok
  kernel_rfl
def ct_l_toChain : Ct := ⟨[PK.bo (Kd.st (Kd.sl (Kd.sl Kd.str))), PK.ro Kd.bool], false, [(true, [RC.ro (Kd.st (Kd.sv (Kd.sv Kd.str)))])], S.l_toChain⟩
theorem v_l_toChain : Valid Go.Proofs.Try.prog gl 19 ct_l_toChain := by
  refine Valid.less (ps := [PK.bo (Kd.st (Kd.sl (Kd.sl Kd.str))), PK.ro Kd.bool]) (tup := false) (rs := [(true, [RC.ro (Kd.st (Kd.sv (Kd.sv Kd.str)))])]) (g := P.l_toChain) (fun k => valid (fx := ⟨⟨Go.Proofs.Try.prog, td, [(32, ct_l_toStringSS)], []⟩, k, []⟩) (fn := Go.Proofs.Try.f19) (c := Go.Proofs.Try.f19.body.getD .skip) mixed tdOk (ctsCons v_l_toStringSS (ctsNil _ _ _ _ _)) Go.Proofs.Try.func19 (by kernel_rfl) (by kernel_rfl) (fun x => ?_)) S.l_toChain_ok
  kernel_rfl
def ct_l_eqStringS : Ct := ⟨[PK.bo (Kd.sl Kd.str), PK.bo (Kd.sl Kd.str)], false, [(false, [RC.ro Kd.bool])], S.l_eqStringS⟩
theorem v_l_eqStringS : Valid Go.Proofs.Try.prog gl 37 ct_l_eqStringS := by
  refine Valid.less (ps := [PK.bo (Kd.sl Kd.str), PK.bo (Kd.sl Kd.str)]) (tup := false) (rs := [(false, [RC.ro Kd.bool])]) (g := P.l_eqStringS) (fun k => valid (fx := ⟨⟨Go.Proofs.Try.prog, td, [], []⟩, k, [(4, [(5, Sp.dat false (Kd.int IntKind.i64)), (0, Sp.dat true (Kd.sl Kd.str)),   (1, Sp.dat true (Kd.sl Kd.str))])]⟩) (fn := Go.Proofs.Try.f37) (c := Go.Proofs.Try.f37.body.getD .skip) mixed tdOk (ctsNil _ _ _ _ _) Go.Proofs.Try.func37 (by kernel_rfl) (by kernel_rfl) (fun x => ?_)) S.l_eqStringS_ok
  kernel_rfl
def ct_l_intactStringS : Ct := ⟨[PK.bo (Kd.sv Kd.str), PK.bo (Kd.sv Kd.str)], false, [(false, [RC.ro Kd.bool])], S.l_intactStringS⟩
theorem v_l_intactStringS : Valid Go.Proofs.Try.prog gl 29 ct_l_intactStringS := by
  refine Valid.less (ps := [PK.bo (Kd.sv Kd.str), PK.bo (Kd.sv Kd.str)]) (tup := false) (rs := [(false, [RC.ro Kd.bool])]) (g := P.l_intactStringS) (fun k => valid (fx := ⟨⟨Go.Proofs.Try.prog, td, [(36, ct_l_roomBehind), (37, ct_l_eqStringS)], []⟩, k, []⟩) (fn := Go.Proofs.Try.f29) (c := Go.Proofs.Try.f29.body.getD .skip) mixed tdOk (ctsCons v_l_roomBehind (ctsCons v_l_eqStringS (ctsNil _ _ _ _ _))) Go.Proofs.Try.func29 (by kernel_rfl) (by kernel_rfl) (fun x => ?_)) S.l_intactStringS_ok
  kernel_rfl
def ct_l_eqStringSS : Ct := ⟨[PK.bo (Kd.sl (Kd.sl Kd.str)), PK.bo (Kd.sl (Kd.sl Kd.str))], false, [(false, [RC.ro Kd.bool])], S.l_eqStringSS⟩
theorem v_l_eqStringSS : Valid Go.Proofs.Try.prog gl 38 ct_l_eqStringSS := by
  refine Valid.less (ps := [PK.bo (Kd.sl (Kd.sl Kd.str)), PK.bo (Kd.sl (Kd.sl Kd.str))]) (tup := false) (rs := [(false, [RC.ro Kd.bool])]) (g := P.l_eqStringSS) (fun k => valid (fx := ⟨⟨Go.Proofs.Try.prog, td, [(37, ct_l_eqStringS)], []⟩, k, [(4, [(5, Sp.dat false (Kd.int IntKind.i64)), (0, Sp.dat true (Kd.sl (Kd.sl Kd.str))),   (1, Sp.dat true (Kd.sl (Kd.sl Kd.str)))])]⟩) (fn := Go.Proofs.Try.f38) (c := Go.Proofs.Try.f38.body.getD .skip) mixed tdOk (ctsCons v_l_eqStringS (ctsNil _ _ _ _ _)) Go.Proofs.Try.func38 (by kernel_rfl) (by kernel_rfl) (fun x => ?_)) S.l_eqStringSS_ok
  kernel_rfl
def ct_l_intactStringSS : Ct := ⟨[PK.bo (Kd.sv (Kd.sv Kd.str)), PK.bo (Kd.sv (Kd.sv Kd.str))], false, [(false, [RC.ro Kd.bool])], S.l_intactStringSS⟩
theorem v_l_intactStringSS : Valid Go.Proofs.Try.prog gl 35 ct_l_intactStringSS := by
  refine Valid.less (ps := [PK.bo (Kd.sv (Kd.sv Kd.str)), PK.bo (Kd.sv (Kd.sv Kd.str))]) (tup := false) (rs := [(false, [RC.ro Kd.bool])]) (g := P.l_intactStringSS) (fun k => valid (fx := ⟨⟨Go.Proofs.Try.prog, td, [(36, ct_l_roomBehind), (29, ct_l_intactStringS), (38, ct_l_eqStringSS)], []⟩, k, [(5, [(6, Sp.dat false (Kd.int IntKind.i64)), (1, Sp.dat true (Kd.sv (Kd.sv Kd.str))),   (0, Sp.dat true (Kd.sv (Kd.sv Kd.str))), (5, Sp.dat false (Kd.int IntKind.i64))])]⟩) (fn := Go.Proofs.Try.f35) (c := Go.Proofs.Try.f35.body.getD .skip) mixed tdOk (ctsCons v_l_roomBehind (ctsCons v_l_intactStringS (ctsCons v_l_eqStringSS (ctsNil _ _ _ _ _)))) Go.Proofs.Try.func35 (by kernel_rfl) (by kernel_rfl) (fun x => ?_)) S.l_intactStringSS_ok
  kernel_rfl
def ct_l_intactChain : Ct := ⟨[PK.bo (Kd.st (Kd.sv (Kd.sv Kd.str))), PK.bo (Kd.st (Kd.sv (Kd.sv Kd.str)))], false, [(false, [RC.ro Kd.bool])], S.l_intactChain⟩
theorem v_l_intactChain : Valid Go.Proofs.Try.prog gl 21 ct_l_intactChain := by
  refine Valid.less (ps := [PK.bo (Kd.st (Kd.sv (Kd.sv Kd.str))), PK.bo (Kd.st (Kd.sv (Kd.sv Kd.str)))]) (tup := false) (rs := [(false, [RC.ro Kd.bool])]) (g := P.l_intactChain) (fun k => valid (fx := ⟨⟨Go.Proofs.Try.prog, td, [(35, ct_l_intactStringSS)], []⟩, k, []⟩) (fn := Go.Proofs.Try.f21) (c := Go.Proofs.Try.f21.body.getD .skip) mixed tdOk (ctsCons v_l_intactStringSS (ctsNil _ _ _ _ _)) Go.Proofs.Try.func21 (by kernel_rfl) (by kernel_rfl) (fun x => ?_)) S.l_intactChain_ok
  kernel_rfl
def ct_s_l03Same : Ct := ⟨[PK.bo (Kd.pt (Kd.st (Kd.sl (Kd.sl Kd.str)))), PK.bo (Kd.pt (Kd.st (Kd.sl (Kd.sl Kd.str))))], false, [(false, [RC.ro Kd.bool])], S.s_l03Same⟩
theorem v_s_l03Same : Valid Go.Proofs.Try.prog gl 31 ct_s_l03Same := by
  refine Valid.less (ps := [PK.bo (Kd.pt (Kd.st (Kd.sl (Kd.sl Kd.str)))), PK.bo (Kd.pt (Kd.st (Kd.sl (Kd.sl Kd.str))))]) (tup := false) (rs := [(false, [RC.ro Kd.bool])]) (g := P.s_l03Same) (fun k => valid (fx := ⟨⟨Go.Proofs.Try.prog, td, [], []⟩, k, [(9, [(51, Sp.dat false (Kd.int IntKind.i64)), (50, Sp.dat false (Kd.int IntKind.i64)),   (0, Sp.dat true (Kd.pt (Kd.st (Kd.sl (Kd.sl Kd.str))))), (5, Sp.dat false (Kd.int IntKind.i64)),   (1, Sp.dat true (Kd.pt (Kd.st (Kd.sl (Kd.sl Kd.str))))), (23, Sp.dat false (Kd.int IntKind.i64)),   (22, Sp.dat false (Kd.int IntKind.i64))]), (4, [(23, Sp.dat false (Kd.int IntKind.i64)), (22, Sp.dat false (Kd.int IntKind.i64)),   (0, Sp.dat true (Kd.pt (Kd.st (Kd.sl (Kd.sl Kd.str))))),   (1, Sp.dat true (Kd.pt (Kd.st (Kd.sl (Kd.sl Kd.str)))))])]⟩) (fn := Go.Proofs.Try.f31) (c := Go.Proofs.Try.f31.body.getD .skip) mixed tdOk (ctsNil _ _ _ _ _) Go.Proofs.Try.func31 (by kernel_rfl) (by kernel_rfl) (fun x => ?_)) S.s_l03Same_ok
  kernel_rfl
def ct_s_SameChain : Ct := ⟨[PK.bo (Kd.st (Kd.sl (Kd.sl Kd.str))), PK.bo (Kd.st (Kd.sl (Kd.sl Kd.str)))], false, [(false, [RC.ro Kd.bool])], S.s_SameChain⟩
theorem v_s_SameChain : Valid Go.Proofs.Try.prog gl 18 ct_s_SameChain := by
  refine Valid.less (ps := [PK.bo (Kd.st (Kd.sl (Kd.sl Kd.str))), PK.bo (Kd.st (Kd.sl (Kd.sl Kd.str)))]) (tup := false) (rs := [(false, [RC.ro Kd.bool])]) (g := P.s_SameChain) (fun k => valid (fx := ⟨⟨Go.Proofs.Try.prog, td, [(31, ct_s_l03Same)], []⟩, k, []⟩) (fn := Go.Proofs.Try.f18) (c := Go.Proofs.Try.f18.body.getD .skip) mixed tdOk (ctsCons v_s_l03Same (ctsNil _ _ _ _ _)) Go.Proofs.Try.func18 (by kernel_rfl) (by kernel_rfl) (fun x => ?_)) S.s_SameChain_ok
  kernel_rfl
def ct_slices_Equal__string_string : Ct := ⟨[PK.bo (Kd.sl Kd.str), PK.bo (Kd.sl Kd.str)], false, [(false, [RC.ro Kd.bool])], S.slices_Equal__string_string⟩
theorem v_slices_Equal__string_string : Valid Go.Proofs.Try.prog gl 28 ct_slices_Equal__string_string := by
  refine Valid.less (ps := [PK.bo (Kd.sl Kd.str), PK.bo (Kd.sl Kd.str)]) (tup := false) (rs := [(false, [RC.ro Kd.bool])]) (g := P.slices_Equal__string_string) (fun k => valid (fx := ⟨⟨Go.Proofs.Try.prog, td, [], []⟩, k, [(4, [(13, Sp.dat false (Kd.int IntKind.i64)), (12, Sp.dat false (Kd.int IntKind.i64)),   (0, Sp.dat true (Kd.sl Kd.str)), (1, Sp.dat true (Kd.sl Kd.str))])]⟩) (fn := Go.Proofs.Try.f28) (c := Go.Proofs.Try.f28.body.getD .skip) mixed tdOk (ctsNil _ _ _ _ _) Go.Proofs.Try.func28 (by kernel_rfl) (by kernel_rfl) (fun x => ?_)) S.slices_Equal__string_string_ok
  kernel_rfl
def ct_i_SameChain1 : Ct := ⟨[PK.bo (Kd.sl Kd.str), PK.bo (Kd.sl Kd.str)], false, [(false, [RC.ro Kd.bool])], S.i_SameChain1⟩
theorem v_i_SameChain1 : Valid Go.Proofs.Try.prog gl 34 ct_i_SameChain1 := by
  refine Valid.less (ps := [PK.bo (Kd.sl Kd.str), PK.bo (Kd.sl Kd.str)]) (tup := false) (rs := [(false, [RC.ro Kd.bool])]) (g := P.i_SameChain1) (fun k => valid (fx := ⟨⟨Go.Proofs.Try.prog, td, [(28, ct_slices_Equal__string_string)], []⟩, k, []⟩) (fn := Go.Proofs.Try.f34) (c := Go.Proofs.Try.f34.body.getD .skip) mixed tdOk (ctsCons v_slices_Equal__string_string (ctsNil _ _ _ _ _)) Go.Proofs.Try.func34 (by kernel_rfl) (by kernel_rfl) (fun x => ?_)) S.i_SameChain1_ok
  kernel_rfl
def ct_slices_EqualFunc___string___string__string__string : Ct := ⟨[PK.bo (Kd.sl (Kd.sl Kd.str)), PK.bo (Kd.sl (Kd.sl Kd.str)), PK.fn (34)], false, [(false, [RC.ro Kd.bool])], S.slices_EqualFunc___string___string__string__string⟩
theorem v_slices_EqualFunc___string___string__string__string : Valid Go.Proofs.Try.prog gl 33 ct_slices_EqualFunc___string___string__string__string := by
  refine Valid.less (ps := [PK.bo (Kd.sl (Kd.sl Kd.str)), PK.bo (Kd.sl (Kd.sl Kd.str)), PK.fn (34)]) (tup := false) (rs := [(false, [RC.ro Kd.bool])]) (g := P.slices_EqualFunc___string___string__string__string) (fun k => valid (fx := ⟨⟨Go.Proofs.Try.prog, td, [(34, ct_i_SameChain1)], []⟩, k, [(4, [(17, Sp.dat false (Kd.int IntKind.i64)), (16, Sp.dat false (Kd.int IntKind.i64)),   (15, Sp.dat true (Kd.sl (Kd.sl Kd.str))), (1, Sp.dat true (Kd.sl (Kd.sl Kd.str))),   (2, Sp.fn (34))])]⟩) (fn := Go.Proofs.Try.f33) (c := Go.Proofs.Try.f33.body.getD .skip) mixed tdOk (ctsCons v_i_SameChain1 (ctsNil _ _ _ _ _)) Go.Proofs.Try.func33 (by kernel_rfl) (by kernel_rfl) (fun x => ?_)) S.slices_EqualFunc___string___string__string__string_ok
  kernel_rfl
def ct_i_SameChain : Ct := ⟨[PK.bo (Kd.st (Kd.sl (Kd.sl Kd.str))), PK.bo (Kd.st (Kd.sl (Kd.sl Kd.str)))], false, [(false, [RC.ro Kd.bool])], S.i_SameChain⟩
theorem v_i_SameChain : Valid Go.Proofs.Try.prog gl 20 ct_i_SameChain := by
  refine Valid.less (ps := [PK.bo (Kd.st (Kd.sl (Kd.sl Kd.str))), PK.bo (Kd.st (Kd.sl (Kd.sl Kd.str)))]) (tup := false) (rs := [(false, [RC.ro Kd.bool])]) (g := P.i_SameChain) (fun k => valid (fx := ⟨⟨Go.Proofs.Try.prog, td, [(34, ct_i_SameChain1), (33, ct_slices_EqualFunc___string___string__string__string)], []⟩, k, []⟩) (fn := Go.Proofs.Try.f20) (c := Go.Proofs.Try.f20.body.getD .skip) mixed tdOk (ctsCons v_i_SameChain1 (ctsCons v_slices_EqualFunc___string___string__string__string (ctsNil _ _ _ _ _))) Go.Proofs.Try.func20 (by kernel_rfl) (by kernel_rfl) (fun x => ?_)) S.i_SameChain_ok
  kernel_rfl
def ct_l_FnExactSameChain : Ct := ⟨[PK.bo (Kd.st (Kd.sl (Kd.sl Kd.str))), PK.bo (Kd.st (Kd.sl (Kd.sl Kd.str)))], false, [(false, [RC.ro Kd.bool])], S.l_FnExactSameChain⟩
theorem v_l_FnExactSameChain : Valid Go.Proofs.Try.prog gl 7 ct_l_FnExactSameChain := by
  refine Valid.less (ps := [PK.bo (Kd.st (Kd.sl (Kd.sl Kd.str))), PK.bo (Kd.st (Kd.sl (Kd.sl Kd.str)))]) (tup := false) (rs := [(false, [RC.ro Kd.bool])]) (g := P.l_FnExactSameChain) (fun k => valid (fx := ⟨⟨Go.Proofs.Try.prog, td, [(17, ct_l_szChain), (19, ct_l_toChain), (21, ct_l_intactChain), (18, ct_s_SameChain), (20, ct_i_SameChain)], []⟩, k, []⟩) (fn := Go.Proofs.Try.f7) (c := Go.Proofs.Try.f7.body.getD .skip) mixed tdOk (ctsCons v_l_szChain (ctsCons v_l_toChain (ctsCons v_l_intactChain (ctsCons v_s_SameChain (ctsCons v_i_SameChain (ctsNil _ _ _ _ _)))))) Go.Proofs.Try.func7 (by kernel_rfl) (by kernel_rfl) (fun x => ?_)) S.l_FnExactSameChain_ok
  kernel_rfl
end Go.Cm.LnA3
end
