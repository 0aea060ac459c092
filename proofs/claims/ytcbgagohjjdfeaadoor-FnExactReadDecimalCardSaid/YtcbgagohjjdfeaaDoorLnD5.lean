import Derived.Test.YtcbgagohjjdfeaaDoorPlD5
import Derived.Test.YtcbgagohjjdfeaaDoorChecked
import Derived.Test.YtcbgagohjjdfeaaDoorTrydShelf
set_option linter.unusedVariables false
set_option maxRecDepth 100000
noncomputable section
namespace Go.Cm.LnD5
open Go.RowKit
variable {gl : List (Nat × List Value)}
theorem td2 : TdOk Go.Proofs.Tryd.prog 2 ⟨Kd.int IntKind.i64, 8, false, 0, []⟩ := .of (by kernel_rfl) (.inr (by kernel_rfl)) rfl (Go.Proofs.Tryd.underlying2)
theorem td3 : TdOk Go.Proofs.Tryd.prog 3 ⟨Kd.int IntKind.i64, 8, false, 0, []⟩ := .of (by kernel_rfl) (.inr (by kernel_rfl)) rfl (Go.Proofs.Tryd.underlying3)
theorem td4 : TdOk Go.Proofs.Tryd.prog 4 ⟨Kd.bool, 1, false, 0, []⟩ := .of (by kernel_rfl) (.inr (by kernel_rfl)) rfl (Go.Proofs.Tryd.underlying4)
theorem td5 : TdOk Go.Proofs.Tryd.prog 5 ⟨Kd.int IntKind.u8, 1, false, 0, []⟩ := .of (by kernel_rfl) (.inr (by kernel_rfl)) rfl (Go.Proofs.Tryd.underlying5)
theorem td9 : TdOk Go.Proofs.Tryd.prog 9 ⟨Kd.str, 16, false, 0, []⟩ := .of (by kernel_rfl) (.inr (by kernel_rfl)) rfl (Go.Proofs.Tryd.underlying9)
theorem td47 : TdOk Go.Proofs.Tryd.prog 47 ⟨Kd.er, 16, false, 0, []⟩ := .of (by kernel_rfl) (.inr (by kernel_rfl)) rfl (⟨_, Go.Proofs.Tryd.underlying47⟩)
theorem td75 : TdOk Go.Proofs.Tryd.prog 75 ⟨Kd.sl (Kd.int IntKind.u8), 24, false, 5, []⟩ := .of (by kernel_rfl) (.inr (by kernel_rfl)) rfl (Go.Proofs.Tryd.underlying75)
def td : List (Nat × Td) := [(2, ⟨Kd.int IntKind.i64, 8, false, 0, []⟩), (3, ⟨Kd.int IntKind.i64, 8, false, 0, []⟩), (4, ⟨Kd.bool, 1, false, 0, []⟩), (5, ⟨Kd.int IntKind.u8, 1, false, 0, []⟩), (9, ⟨Kd.str, 16, false, 0, []⟩), (47, ⟨Kd.er, 16, false, 0, []⟩), (75, ⟨Kd.sl (Kd.int IntKind.u8), 24, false, 5, []⟩)]
theorem tdOk : TdsOk ⟨Go.Proofs.Tryd.prog, td, [], []⟩ Go.Proofs.Tryd.prog := tdsCons td2 (tdsCons td3 (tdsCons td4 (tdsCons td5 (tdsCons td9 (tdsCons td47 (tdsCons td75 (tdsNil _ _ _ _)))))))
theorem mixed : Go.Proofs.Tryd.prog.follows .mixedOrders = true := by kernel_rfl
/-- Package-level variables that are laid. -/
def InP (gl : List (Nat × List Value)) : Prop := (0, Go.Lib.pow10Tab.map fun z => Value.int .u64 z) ∈ gl
def InM (gl : List (Nat × List Value)) : Prop := ∃ m, (3, [Value.int .i64 m]) ∈ gl
def InS (gl : List (Nat × List Value)) : Prop := ∃ t p, (1, [Value.iface t p]) ∈ gl
def InR (gl : List (Nat × List Value)) : Prop := ∃ t p, (2, [Value.iface t p]) ∈ gl
def ct_s_l00In : Ct := ⟨[PK.ro (Kd.int IntKind.i64), PK.ro (Kd.int IntKind.i64), PK.ro (Kd.int IntKind.i64)], false, [(false, [RC.ro Kd.bool])], S.s_l00In⟩
theorem v_s_l00In : Valid Go.Proofs.Tryd.prog gl 54 ct_s_l00In := by
  refine Valid.less (ps := [PK.ro (Kd.int IntKind.i64), PK.ro (Kd.int IntKind.i64), PK.ro (Kd.int IntKind.i64)]) (tup := false) (rs := [(false, [RC.ro Kd.bool])]) (g := P.s_l00In) (fun k => valid (fx := ⟨⟨Go.Proofs.Tryd.prog, td, [], []⟩, k, []⟩) (fn := Go.Proofs.Tryd.f54) (c := Go.Proofs.Tryd.f54.body.getD .skip) mixed tdOk (ctsNil _ _ _ _ _) Go.Proofs.Tryd.func54 (by kernel_rfl) (by kernel_rfl) (fun x => ?_)) S.s_l00In_ok
  kernel_rfl
def ct_s_l01Dec : Ct := ⟨[PK.ro (Kd.int IntKind.i64)], false, [(false, [RC.ro Kd.str])], S.s_l01Dec⟩
theorem v_s_l01Dec : Valid Go.Proofs.Tryd.prog gl 29 ct_s_l01Dec := by
  refine Valid.less (ps := [PK.ro (Kd.int IntKind.i64)]) (tup := false) (rs := [(false, [RC.ro Kd.str])]) (g := P.s_l01Dec) (fun k => valid (fx := ⟨⟨Go.Proofs.Tryd.prog, td, [], []⟩, k, [(3, [(3, Sp.dat false (Kd.sl (Kd.int IntKind.u8))), (4, Sp.dat false (Kd.int IntKind.i64)), (0, Sp.dat false (Kd.int IntKind.i64))])]⟩) (fn := Go.Proofs.Tryd.f29) (c := Go.Proofs.Tryd.f29.body.getD .skip) mixed tdOk (ctsNil _ _ _ _ _) Go.Proofs.Tryd.func29 (by kernel_rfl) (by kernel_rfl) (fun x => ?_)) S.s_l01Dec_ok
  kernel_rfl
def ct_s_l01Value : Ct := ⟨[PK.ro Kd.str], true, [(false, [RC.ro (Kd.int IntKind.i64)]), (false, [RC.ro Kd.bool])], S.s_l01Value⟩
theorem v_s_l01Value : Valid Go.Proofs.Tryd.prog gl 36 ct_s_l01Value := by
  refine Valid.less (ps := [PK.ro Kd.str]) (tup := true) (rs := [(false, [RC.ro (Kd.int IntKind.i64)]), (false, [RC.ro Kd.bool])]) (g := P.s_l01Value) (fun k => valid (fx := ⟨⟨Go.Proofs.Tryd.prog, td, [(54, ct_s_l00In), (29, ct_s_l01Dec)], []⟩, k, [(5, [(5, Sp.dat false (Kd.int IntKind.i64)), (0, Sp.dat false Kd.str), (4, Sp.dat false (Kd.int IntKind.i64))])]⟩) (fn := Go.Proofs.Tryd.f36) (c := Go.Proofs.Tryd.f36.body.getD .skip) mixed tdOk (ctsCons v_s_l00In (ctsCons v_s_l01Dec (ctsNil _ _ _ _ _))) Go.Proofs.Tryd.func36 (by kernel_rfl) (by kernel_rfl) (fun x => ?_)) S.s_l01Value_ok
  kernel_rfl
def ct_s_ReadDecimal : Ct := ⟨[PK.ro Kd.str], true, [(false, [RC.ro (Kd.int IntKind.i64)]), (false, [RC.ro Kd.bool])], S.s_ReadDecimal⟩
theorem v_s_ReadDecimal : Valid Go.Proofs.Tryd.prog gl 16 ct_s_ReadDecimal := by
  refine Valid.less (ps := [PK.ro Kd.str]) (tup := true) (rs := [(false, [RC.ro (Kd.int IntKind.i64)]), (false, [RC.ro Kd.bool])]) (g := P.s_ReadDecimal) (fun k => valid (fx := ⟨⟨Go.Proofs.Tryd.prog, td, [(36, ct_s_l01Value)], []⟩, k, []⟩) (fn := Go.Proofs.Tryd.f16) (c := Go.Proofs.Tryd.f16.body.getD .skip) mixed tdOk (ctsCons v_s_l01Value (ctsNil _ _ _ _ _)) Go.Proofs.Tryd.func16 (by kernel_rfl) (by kernel_rfl) (fun x => ?_)) S.s_ReadDecimal_ok
  kernel_rfl
def ct_strconv_ParseInt : Ct := ⟨[PK.ro Kd.str, PK.ro (Kd.int IntKind.i64), PK.ro (Kd.int IntKind.i64)], true, [(false, [RC.ro (Kd.int IntKind.i64)]), (false, [RC.ro Kd.er])], S.strconv_ParseInt⟩
theorem v_strconv_ParseInt (hR : InR gl) (hS : InS gl) : Valid Go.Proofs.Tryd.prog gl 37 ct_strconv_ParseInt := by
  refine told_flat (enters_of Go.Proofs.Tryd.func37 (by kernel_rfl) (by kernel_rfl)) (fun _ _ _ _ _ _ => trivial) (fun w M0 W0 us x γ hl hW ha r hr => ?_)
  obtain ⟨s, b, z, q⟩ := x
  obtain ⟨u1, _, rfl, ⟨c1, h1, h1'⟩, u2, _, rfl, ⟨c2, h2, h2'⟩, u3, _, rfl, ⟨c3, h3, h3'⟩, rfl⟩ := ha
  cases h1'; cases h2'; cases h3'; subst h1; subst h2; subst h3
  unfold S.strconv_ParseInt at hr
  split at hr
  case isFalse => cases hr
  rename_i hc
  obtain ⟨hb, hz, hs⟩ := hc
  dsimp only at hb hz hs hr
  subst hb; subst hz
  obtain ⟨t1, p1, hS⟩ := hS
  obtain ⟨t2, p2, hR⟩ := hR
  have v1 : w.var? Go.Proofs.Tryd.prog "strconv.ErrSyntax" = some #[.iface t1 p1] := laid_var hl hS (by kernel_rfl)
  have v2 : w.var? Go.Proofs.Tryd.prog "strconv.ErrRange" = some #[.iface t2 p2] := laid_var hl hR (by kernel_rfl)
  split at hr
  · rename_i v hv
    cases hr
    refine (Go.Proofs.Tryd.strconv_ParseInt_10_at64_ok s (by omega) v hv w).mono ?_
    rintro e w' ⟨rfl, hw⟩
    refine ⟨[_, _], rfl, ?_, fun M' => ⟨[_], [_], rfl, fun _ => rfl, rfl, [_], rfl, fun _ => rfl, _, rfl, rfl, rfl⟩⟩
    rcases hw with rfl | ⟨t, rfl⟩
    · exact Below.refl _ _
    · exact ⟨rfl, rfl, rfl, by rw [Lib.bytesWorld_size]; omega, fun k hk => Lib.bytesWorld_at_old _ _ _ k (by omega)⟩
  · rename_i hv
    cases hr
    refine (Go.Proofs.Tryd.strconv_ParseInt_10_at64_syntax_var s hs hv t1 p1 w v1).mono ?_
    rintro e w' ⟨N, rfl, _, _, hbl⟩
    exact ⟨[_, _], rfl, hbl, fun M' => ⟨[_], [_], rfl, fun _ => rfl, rfl, [_], rfl, fun _ => rfl, _, rfl, rfl, _, _, rfl⟩⟩
  · rename_i hv
    cases hr
    refine (Go.Proofs.Tryd.strconv_ParseInt_10_at64_range_var s hs hv t2 p2 w v2).mono ?_
    rintro e w' ⟨N, rfl, _, _, hbl⟩
    exact ⟨[_, _], rfl, hbl, fun M' => ⟨[_], [_], rfl, fun _ => rfl, rfl, [_], rfl, fun _ => rfl, _, rfl, rfl, _, _, rfl⟩⟩

def ct_i_in : Ct := ⟨[PK.ro (Kd.int IntKind.i64), PK.ro (Kd.int IntKind.i64), PK.ro (Kd.int IntKind.i64)], false, [(false, [RC.ro Kd.bool])], S.i_in⟩
theorem v_i_in : Valid Go.Proofs.Tryd.prog gl 34 ct_i_in := by
  refine Valid.less (ps := [PK.ro (Kd.int IntKind.i64), PK.ro (Kd.int IntKind.i64), PK.ro (Kd.int IntKind.i64)]) (tup := false) (rs := [(false, [RC.ro Kd.bool])]) (g := P.i_in) (fun k => valid (fx := ⟨⟨Go.Proofs.Tryd.prog, td, [], []⟩, k, []⟩) (fn := Go.Proofs.Tryd.f34) (c := Go.Proofs.Tryd.f34.body.getD .skip) mixed tdOk (ctsNil _ _ _ _ _) Go.Proofs.Tryd.func34 (by kernel_rfl) (by kernel_rfl) (fun x => ?_)) S.i_in_ok
  kernel_rfl
def ct_strconv_FormatInt : Ct := ⟨[PK.ro (Kd.int IntKind.i64), PK.ro (Kd.int IntKind.i64)], false, [(false, [RC.ro Kd.str])], S.strconv_FormatInt⟩
theorem belowGrow (w : World) (k : Nat) (os : Array Obj) : Below w.heap.size w (Go.Sort.grow (w.drewN k) os) := ⟨rfl, rfl, rfl, by simp [Go.Sort.grow, World.drewN], fun b hb => by simp [Go.Sort.grow, World.drewN, Array.getElem?_append_left hb]⟩
theorem v_strconv_FormatInt (hP : InP gl) : Valid Go.Proofs.Tryd.prog gl 30 ct_strconv_FormatInt := by
  refine told_flat (enters_of Go.Proofs.Tryd.func30 (by kernel_rfl) (by kernel_rfl)) (fun _ _ _ _ _ _ => trivial) (fun w M0 W0 us x γ hl hW ha r hr => ?_)
  obtain ⟨n, b, q⟩ := x
  obtain ⟨u1, _, rfl, ⟨c1, h1, h1'⟩, u2, _, rfl, ⟨c2, h2, h2'⟩, rfl⟩ := ha
  cases h1'; cases h2'; subst h1; subst h2
  unfold S.strconv_FormatInt at hr
  split at hr
  case isFalse => cases hr
  rename_i hc
  obtain ⟨hb, h0, h3⟩ := hc
  cases hr
  dsimp only at hb h0 h3
  subst hb
  have htab : Lib.TabIs Go.Proofs.Tryd.prog w "internal/strconv.uint64pow10" .u64 Lib.pow10Tab := laid_var hl hP (by kernel_rfl)
  refine (Go.Proofs.Tryd.strconv_FormatInt_10 n h0 h3 w htab).mono ?_
  rintro e w' ⟨rfl, k, os, rfl⟩
  exact ⟨[_], rfl, belowGrow _ _ _, fun M' => ⟨[_], rfl, fun _ => rfl, rfl⟩⟩

def ct_i_Decimal : Ct := ⟨[PK.ro (Kd.int IntKind.i64)], false, [(false, [RC.ro Kd.str])], S.i_Decimal⟩
theorem v_i_Decimal (hP : InP gl) : Valid Go.Proofs.Tryd.prog gl 11 ct_i_Decimal := by
  refine Valid.less (ps := [PK.ro (Kd.int IntKind.i64)]) (tup := false) (rs := [(false, [RC.ro Kd.str])]) (g := P.i_Decimal) (fun k => valid (fx := ⟨⟨Go.Proofs.Tryd.prog, td, [(30, ct_strconv_FormatInt)], []⟩, k, []⟩) (fn := Go.Proofs.Tryd.f11) (c := Go.Proofs.Tryd.f11.body.getD .skip) mixed tdOk (ctsCons (v_strconv_FormatInt hP) (ctsNil _ _ _ _ _)) Go.Proofs.Tryd.func11 (by kernel_rfl) (by kernel_rfl) (fun x => ?_)) S.i_Decimal_ok
  kernel_rfl
def ct_i_ReadDecimal : Ct := ⟨[PK.ro Kd.str], true, [(false, [RC.ro (Kd.int IntKind.i64)]), (false, [RC.ro Kd.bool])], S.i_ReadDecimal⟩
theorem v_i_ReadDecimal (hP : InP gl) (hR : InR gl) (hS : InS gl) : Valid Go.Proofs.Tryd.prog gl 17 ct_i_ReadDecimal := by
  refine Valid.less (ps := [PK.ro Kd.str]) (tup := true) (rs := [(false, [RC.ro (Kd.int IntKind.i64)]), (false, [RC.ro Kd.bool])]) (g := P.i_ReadDecimal) (fun k => valid (fx := ⟨⟨Go.Proofs.Tryd.prog, td, [(37, ct_strconv_ParseInt), (34, ct_i_in), (11, ct_i_Decimal)], []⟩, k, []⟩) (fn := Go.Proofs.Tryd.f17) (c := Go.Proofs.Tryd.f17.body.getD .skip) mixed tdOk (ctsCons (v_strconv_ParseInt hR hS) (ctsCons v_i_in (ctsCons (v_i_Decimal hP) (ctsNil _ _ _ _ _)))) Go.Proofs.Tryd.func17 (by kernel_rfl) (by kernel_rfl) (fun x => ?_)) S.i_ReadDecimal_ok
  kernel_rfl
def ct_l_FnExactReadDecimal : Ct := ⟨[PK.ro Kd.str], false, [(false, [RC.ro Kd.bool])], S.l_FnExactReadDecimal⟩
theorem v_l_FnExactReadDecimal (hP : InP gl) (hR : InR gl) (hS : InS gl) : Valid Go.Proofs.Tryd.prog gl 5 ct_l_FnExactReadDecimal := by
  refine Valid.less (ps := [PK.ro Kd.str]) (tup := false) (rs := [(false, [RC.ro Kd.bool])]) (g := P.l_FnExactReadDecimal) (fun k => valid (fx := ⟨⟨Go.Proofs.Tryd.prog, td, [(16, ct_s_ReadDecimal), (17, ct_i_ReadDecimal)], []⟩, k, []⟩) (fn := Go.Proofs.Tryd.f5) (c := Go.Proofs.Tryd.f5.body.getD .skip) mixed tdOk (ctsCons v_s_ReadDecimal (ctsCons (v_i_ReadDecimal hP hR hS) (ctsNil _ _ _ _ _))) Go.Proofs.Tryd.func5 (by kernel_rfl) (by kernel_rfl) (fun x => ?_)) S.l_FnExactReadDecimal_ok
  kernel_rfl
end Go.Cm.LnD5
end
