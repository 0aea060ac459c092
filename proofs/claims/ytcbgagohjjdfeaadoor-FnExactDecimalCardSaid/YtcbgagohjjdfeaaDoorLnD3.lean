import Derived.Test.YtcbgagohjjdfeaaDoorPlD3
import Derived.Test.YtcbgagohjjdfeaaDoorChecked
import Derived.Test.YtcbgagohjjdfeaaDoorTrydShelf
set_option linter.unusedVariables false
set_option maxRecDepth 100000
noncomputable section
namespace Go.Cm.LnD3
open Go.RowKit
variable {gl : List (Nat × List Value)}
theorem td2 : TdOk Go.Proofs.Tryd.prog 2 ⟨Kd.int IntKind.i64, 8, false, 0, []⟩ := .of (by kernel_rfl) (.inr (by kernel_rfl)) rfl (Go.Proofs.Tryd.underlying2)
theorem td3 : TdOk Go.Proofs.Tryd.prog 3 ⟨Kd.int IntKind.i64, 8, false, 0, []⟩ := .of (by kernel_rfl) (.inr (by kernel_rfl)) rfl (Go.Proofs.Tryd.underlying3)
theorem td4 : TdOk Go.Proofs.Tryd.prog 4 ⟨Kd.bool, 1, false, 0, []⟩ := .of (by kernel_rfl) (.inr (by kernel_rfl)) rfl (Go.Proofs.Tryd.underlying4)
theorem td5 : TdOk Go.Proofs.Tryd.prog 5 ⟨Kd.int IntKind.u8, 1, false, 0, []⟩ := .of (by kernel_rfl) (.inr (by kernel_rfl)) rfl (Go.Proofs.Tryd.underlying5)
theorem td9 : TdOk Go.Proofs.Tryd.prog 9 ⟨Kd.str, 16, false, 0, []⟩ := .of (by kernel_rfl) (.inr (by kernel_rfl)) rfl (Go.Proofs.Tryd.underlying9)
theorem td75 : TdOk Go.Proofs.Tryd.prog 75 ⟨Kd.sl (Kd.int IntKind.u8), 24, false, 5, []⟩ := .of (by kernel_rfl) (.inr (by kernel_rfl)) rfl (Go.Proofs.Tryd.underlying75)
def td : List (Nat × Td) := [(2, ⟨Kd.int IntKind.i64, 8, false, 0, []⟩), (3, ⟨Kd.int IntKind.i64, 8, false, 0, []⟩), (4, ⟨Kd.bool, 1, false, 0, []⟩), (5, ⟨Kd.int IntKind.u8, 1, false, 0, []⟩), (9, ⟨Kd.str, 16, false, 0, []⟩), (75, ⟨Kd.sl (Kd.int IntKind.u8), 24, false, 5, []⟩)]
theorem tdOk : TdsOk ⟨Go.Proofs.Tryd.prog, td, [], []⟩ Go.Proofs.Tryd.prog := tdsCons td2 (tdsCons td3 (tdsCons td4 (tdsCons td5 (tdsCons td9 (tdsCons td75 (tdsNil _ _ _ _))))))
theorem mixed : Go.Proofs.Tryd.prog.follows .mixedOrders = true := by kernel_rfl
/-- Package-level variables that are laid. -/
def InP (gl : List (Nat × List Value)) : Prop := (0, Go.Lib.pow10Tab.map fun z => Value.int .u64 z) ∈ gl
def InM (gl : List (Nat × List Value)) : Prop := ∃ m, (3, [Value.int .i64 m]) ∈ gl
def InS (gl : List (Nat × List Value)) : Prop := ∃ t p, (1, [Value.iface t p]) ∈ gl
def InR (gl : List (Nat × List Value)) : Prop := ∃ t p, (2, [Value.iface t p]) ∈ gl
def ct_s_l01Dec : Ct := ⟨[PK.ro (Kd.int IntKind.i64)], false, [(false, [RC.ro Kd.str])], S.s_l01Dec⟩
theorem v_s_l01Dec : Valid Go.Proofs.Tryd.prog gl 29 ct_s_l01Dec := by
  refine Valid.less (ps := [PK.ro (Kd.int IntKind.i64)]) (tup := false) (rs := [(false, [RC.ro Kd.str])]) (g := P.s_l01Dec) (fun k => valid (fx := ⟨⟨Go.Proofs.Tryd.prog, td, [], []⟩, k, [(3, [(3, Sp.dat false (Kd.sl (Kd.int IntKind.u8))), (4, Sp.dat false (Kd.int IntKind.i64)), (0, Sp.dat false (Kd.int IntKind.i64))])]⟩) (fn := Go.Proofs.Tryd.f29) (c := Go.Proofs.Tryd.f29.body.getD .skip) mixed tdOk (ctsNil _ _ _ _ _) Go.Proofs.Tryd.func29 (by kernel_rfl) (by kernel_rfl) (fun x => ?_)) S.s_l01Dec_ok
  kernel_rfl
def ct_s_Decimal : Ct := ⟨[PK.ro (Kd.int IntKind.i64)], false, [(false, [RC.ro Kd.str])], S.s_Decimal⟩
theorem v_s_Decimal : Valid Go.Proofs.Tryd.prog gl 10 ct_s_Decimal := by
  refine Valid.less (ps := [PK.ro (Kd.int IntKind.i64)]) (tup := false) (rs := [(false, [RC.ro Kd.str])]) (g := P.s_Decimal) (fun k => valid (fx := ⟨⟨Go.Proofs.Tryd.prog, td, [(29, ct_s_l01Dec)], []⟩, k, []⟩) (fn := Go.Proofs.Tryd.f10) (c := Go.Proofs.Tryd.f10.body.getD .skip) mixed tdOk (ctsCons v_s_l01Dec (ctsNil _ _ _ _ _)) Go.Proofs.Tryd.func10 (by kernel_rfl) (by kernel_rfl) (fun x => ?_)) S.s_Decimal_ok
  kernel_rfl
def ct_strconv_FormatInt : Ct := ⟨[PK.ro (Kd.int IntKind.i64), PK.ro (Kd.int IntKind.i64)], false, [(false, [RC.ro Kd.str])], S.strconv_FormatInt⟩
theorem belowGrow (w : World) (k : Nat) (os : Array Obj) : Below w.heap.size w (Go.Sort.grow (w.drewN k) os) := ⟨rfl, rfl, rfl, by simp [Go.Sort.grow, World.drewN], fun b hb => by simp [Go.Sort.grow, World.drewN, Array.getElem?_append_left hb]⟩
theorem v_strconv_FormatInt (hP : InP gl) : Valid Go.Proofs.Tryd.prog gl 30 ct_strconv_FormatInt := by
  refine told_flat (enters_of Go.Proofs.Tryd.func30 (by kernel_rfl) (by kernel_rfl)) (fun _ _ _ _ _ _ => trivial) (fun w M0 W0 us x γ hl hW ha r hr => ?_)
  obtain ⟨n, b, q⟩ := x
  obtain ⟨u1, _, rfl, ⟨c1, h1, h1'⟩, u2, _, rfl, ⟨c2, h2, h2'⟩, rfl⟩ := ha
  cases h1'; cases h2'; subst h1; subst h2
  unfold S.strconv_FormatInt at hr
  split at hr
  case isFalse => cases hr
  rename_i hc
  obtain ⟨hb, h0, h3⟩ := hc
  cases hr
  dsimp only at hb h0 h3
  subst hb
  have htab : Lib.TabIs Go.Proofs.Tryd.prog w "internal/strconv.uint64pow10" .u64 Lib.pow10Tab := laid_var hl hP (by kernel_rfl)
  refine (Go.Proofs.Tryd.strconv_FormatInt_10 n h0 h3 w htab).mono ?_
  rintro e w' ⟨rfl, k, os, rfl⟩
  exact ⟨[_], rfl, belowGrow _ _ _, fun M' => ⟨[_], rfl, fun _ => rfl, rfl⟩⟩

def ct_i_Decimal : Ct := ⟨[PK.ro (Kd.int IntKind.i64)], false, [(false, [RC.ro Kd.str])], S.i_Decimal⟩
theorem v_i_Decimal (hP : InP gl) : Valid Go.Proofs.Tryd.prog gl 11 ct_i_Decimal := by
  refine Valid.less (ps := [PK.ro (Kd.int IntKind.i64)]) (tup := false) (rs := [(false, [RC.ro Kd.str])]) (g := P.i_Decimal) (fun k => valid (fx := ⟨⟨Go.Proofs.Tryd.prog, td, [(30, ct_strconv_FormatInt)], []⟩, k, []⟩) (fn := Go.Proofs.Tryd.f11) (c := Go.Proofs.Tryd.f11.body.getD .skip) mixed tdOk (ctsCons (v_strconv_FormatInt hP) (ctsNil _ _ _ _ _)) Go.Proofs.Tryd.func11 (by kernel_rfl) (by kernel_rfl) (fun x => ?_)) S.i_Decimal_ok
  kernel_rfl
def ct_l_FnExactDecimal : Ct := ⟨[PK.ro (Kd.int IntKind.i64)], false, [(false, [RC.ro Kd.bool])], S.l_FnExactDecimal⟩
theorem v_l_FnExactDecimal (hP : InP gl) : Valid Go.Proofs.Tryd.prog gl 3 ct_l_FnExactDecimal := by
  refine Valid.less (ps := [PK.ro (Kd.int IntKind.i64)]) (tup := false) (rs := [(false, [RC.ro Kd.bool])]) (g := P.l_FnExactDecimal) (fun k => valid (fx := ⟨⟨Go.Proofs.Tryd.prog, td, [(10, ct_s_Decimal), (11, ct_i_Decimal)], []⟩, k, []⟩) (fn := Go.Proofs.Tryd.f3) (c := Go.Proofs.Tryd.f3.body.getD .skip) mixed tdOk (ctsCons v_s_Decimal (ctsCons (v_i_Decimal hP) (ctsNil _ _ _ _ _))) Go.Proofs.Tryd.func3 (by kernel_rfl) (by kernel_rfl) (fun x => ?_)) S.l_FnExactDecimal_ok
  kernel_rfl
end Go.Cm.LnD3
end
