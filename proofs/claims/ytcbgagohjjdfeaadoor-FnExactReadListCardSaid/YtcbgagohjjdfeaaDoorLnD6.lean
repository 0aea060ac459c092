import Derived.Test.YtcbgagohjjdfeaaDoorPlD6
import Derived.Test.YtcbgagohjjdfeaaDoorChecked
import Derived.Test.YtcbgagohjjdfeaaDoorTrydShelf
set_option linter.unusedVariables false
set_option maxRecDepth 100000
noncomputable section
namespace Go.Cm.LnD6
open Go.RowKit
variable {gl : List (Nat × List Value)}
theorem td2 : TdOk Go.Proofs.Tryd.prog 2 ⟨Kd.int IntKind.i64, 8, false, 0, []⟩ := .of (by kernel_rfl) (.inr (by kernel_rfl)) rfl (Go.Proofs.Tryd.underlying2)
theorem td3 : TdOk Go.Proofs.Tryd.prog 3 ⟨Kd.int IntKind.i64, 8, false, 0, []⟩ := .of (by kernel_rfl) (.inr (by kernel_rfl)) rfl (Go.Proofs.Tryd.underlying3)
theorem td4 : TdOk Go.Proofs.Tryd.prog 4 ⟨Kd.bool, 1, false, 0, []⟩ := .of (by kernel_rfl) (.inr (by kernel_rfl)) rfl (Go.Proofs.Tryd.underlying4)
theorem td5 : TdOk Go.Proofs.Tryd.prog 5 ⟨Kd.int IntKind.u8, 1, false, 0, []⟩ := .of (by kernel_rfl) (.inr (by kernel_rfl)) rfl (Go.Proofs.Tryd.underlying5)
theorem td9 : TdOk Go.Proofs.Tryd.prog 9 ⟨Kd.str, 16, false, 0, []⟩ := .of (by kernel_rfl) (.inr (by kernel_rfl)) rfl (Go.Proofs.Tryd.underlying9)
theorem td24 : TdOk Go.Proofs.Tryd.prog 24 ⟨Kd.sl (Kd.int IntKind.i64), 24, false, 2, []⟩ := .of (by kernel_rfl) (.inr (by kernel_rfl)) rfl (Go.Proofs.Tryd.underlying24)
theorem td43 : TdOk Go.Proofs.Tryd.prog 43 ⟨Kd.sl Kd.str, 24, false, 9, []⟩ := .of (by kernel_rfl) (.inr (by kernel_rfl)) rfl (Go.Proofs.Tryd.underlying43)
theorem td47 : TdOk Go.Proofs.Tryd.prog 47 ⟨Kd.er, 16, false, 0, []⟩ := .of (by kernel_rfl) (.inr (by kernel_rfl)) rfl (⟨_, Go.Proofs.Tryd.underlying47⟩)
theorem td75 : TdOk Go.Proofs.Tryd.prog 75 ⟨Kd.sl (Kd.int IntKind.u8), 24, false, 5, []⟩ := .of (by kernel_rfl) (.inr (by kernel_rfl)) rfl (Go.Proofs.Tryd.underlying75)
def td : List (Nat × Td) := [(2, ⟨Kd.int IntKind.i64, 8, false, 0, []⟩), (3, ⟨Kd.int IntKind.i64, 8, false, 0, []⟩), (4, ⟨Kd.bool, 1, false, 0, []⟩), (5, ⟨Kd.int IntKind.u8, 1, false, 0, []⟩), (9, ⟨Kd.str, 16, false, 0, []⟩), (24, ⟨Kd.sl (Kd.int IntKind.i64), 24, false, 2, []⟩), (43, ⟨Kd.sl Kd.str, 24, false, 9, []⟩), (47, ⟨Kd.er, 16, false, 0, []⟩), (75, ⟨Kd.sl (Kd.int IntKind.u8), 24, false, 5, []⟩)]
theorem tdOk : TdsOk ⟨Go.Proofs.Tryd.prog, td, [], []⟩ Go.Proofs.Tryd.prog := tdsCons td2 (tdsCons td3 (tdsCons td4 (tdsCons td5 (tdsCons td9 (tdsCons td24 (tdsCons td43 (tdsCons td47 (tdsCons td75 (tdsNil _ _ _ _)))))))))
theorem mixed : Go.Proofs.Tryd.prog.follows .mixedOrders = true := by kernel_rfl
/-- Package-level variables that are laid. -/
def InP (gl : List (Nat × List Value)) : Prop := (0, Go.Lib.pow10Tab.map fun z => Value.int .u64 z) ∈ gl
def InM (gl : List (Nat × List Value)) : Prop := ∃ m, (3, [Value.int .i64 m]) ∈ gl
def InS (gl : List (Nat × List Value)) : Prop := ∃ t p, (1, [Value.iface t p]) ∈ gl
def InR (gl : List (Nat × List Value)) : Prop := ∃ t p, (2, [Value.iface t p]) ∈ gl
def ct_l_eqInt64S : Ct := ⟨[PK.bo (Kd.sl (Kd.int IntKind.i64)), PK.bo (Kd.sl (Kd.int IntKind.i64))], false, [(false, [RC.ro Kd.bool])], S.l_eqInt64S⟩
theorem v_l_eqInt64S : Valid Go.Proofs.Tryd.prog gl 20 ct_l_eqInt64S := by
  refine Valid.less (ps := [PK.bo (Kd.sl (Kd.int IntKind.i64)), PK.bo (Kd.sl (Kd.int IntKind.i64))]) (tup := false) (rs := [(false, [RC.ro Kd.bool])]) (g := P.l_eqInt64S) (fun k => valid (fx := ⟨⟨Go.Proofs.Tryd.prog, td, [], []⟩, k, [(4, [(5, Sp.dat false (Kd.int IntKind.i64)), (0, Sp.dat true (Kd.sl (Kd.int IntKind.i64))),   (1, Sp.dat true (Kd.sl (Kd.int IntKind.i64)))])]⟩) (fn := Go.Proofs.Tryd.f20) (c := Go.Proofs.Tryd.f20.body.getD .skip) mixed tdOk (ctsNil _ _ _ _ _) Go.Proofs.Tryd.func20 (by kernel_rfl) (by kernel_rfl) (fun x => ?_)) S.l_eqInt64S_ok
  kernel_rfl
def ct_l_markInt64S : Ct := ⟨[PK.mu (Kd.int IntKind.i64), PK.ro (Kd.int IntKind.i64)], false, [(false, [RC.ro (Kd.int IntKind.i64)])], S.l_markInt64S⟩
theorem v_l_markInt64S : Valid Go.Proofs.Tryd.prog gl 21 ct_l_markInt64S := by
  refine Valid.less (ps := [PK.mu (Kd.int IntKind.i64), PK.ro (Kd.int IntKind.i64)]) (tup := false) (rs := [(false, [RC.ro (Kd.int IntKind.i64)])]) (g := P.l_markInt64S) (fun k => valid (fx := ⟨⟨Go.Proofs.Tryd.prog, td, [], []⟩, k, [(2, [(5, Sp.dat false (Kd.int IntKind.i64)), (0, Sp.own (0) false (Kd.int IntKind.i64)), (1, Sp.dat false (Kd.int IntKind.i64))])]⟩) (fn := Go.Proofs.Tryd.f21) (c := Go.Proofs.Tryd.f21.body.getD .skip) mixed tdOk (ctsNil _ _ _ _ _) Go.Proofs.Tryd.func21 (by kernel_rfl) (by kernel_rfl) (fun x => ?_)) S.l_markInt64S_ok
  kernel_rfl
def ct_l_heldInt64S : Ct := ⟨[PK.bo (Kd.sl (Kd.int IntKind.i64)), PK.ro (Kd.int IntKind.i64)], false, [(false, [RC.ro (Kd.int IntKind.i64)])], S.l_heldInt64S⟩
theorem v_l_heldInt64S : Valid Go.Proofs.Tryd.prog gl 22 ct_l_heldInt64S := by
  refine Valid.less (ps := [PK.bo (Kd.sl (Kd.int IntKind.i64)), PK.ro (Kd.int IntKind.i64)]) (tup := false) (rs := [(false, [RC.ro (Kd.int IntKind.i64)])]) (g := P.l_heldInt64S) (fun k => valid (fx := ⟨⟨Go.Proofs.Tryd.prog, td, [], []⟩, k, [(2, [(5, Sp.dat false (Kd.int IntKind.i64)), (0, Sp.dat true (Kd.sl (Kd.int IntKind.i64))), (1, Sp.dat false (Kd.int IntKind.i64))])]⟩) (fn := Go.Proofs.Tryd.f22) (c := Go.Proofs.Tryd.f22.body.getD .skip) mixed tdOk (ctsNil _ _ _ _ _) Go.Proofs.Tryd.func22 (by kernel_rfl) (by kernel_rfl) (fun x => ?_)) S.l_heldInt64S_ok
  kernel_rfl
def ct_s_l00In : Ct := ⟨[PK.ro (Kd.int IntKind.i64), PK.ro (Kd.int IntKind.i64), PK.ro (Kd.int IntKind.i64)], false, [(false, [RC.ro Kd.bool])], S.s_l00In⟩
theorem v_s_l00In : Valid Go.Proofs.Tryd.prog gl 54 ct_s_l00In := by
  refine Valid.less (ps := [PK.ro (Kd.int IntKind.i64), PK.ro (Kd.int IntKind.i64), PK.ro (Kd.int IntKind.i64)]) (tup := false) (rs := [(false, [RC.ro Kd.bool])]) (g := P.s_l00In) (fun k => valid (fx := ⟨⟨Go.Proofs.Tryd.prog, td, [], []⟩, k, []⟩) (fn := Go.Proofs.Tryd.f54) (c := Go.Proofs.Tryd.f54.body.getD .skip) mixed tdOk (ctsNil _ _ _ _ _) Go.Proofs.Tryd.func54 (by kernel_rfl) (by kernel_rfl) (fun x => ?_)) S.s_l00In_ok
  kernel_rfl
def ct_s_l01Dec : Ct := ⟨[PK.ro (Kd.int IntKind.i64)], false, [(false, [RC.ro Kd.str])], S.s_l01Dec⟩
theorem v_s_l01Dec : Valid Go.Proofs.Tryd.prog gl 29 ct_s_l01Dec := by
  refine Valid.less (ps := [PK.ro (Kd.int IntKind.i64)]) (tup := false) (rs := [(false, [RC.ro Kd.str])]) (g := P.s_l01Dec) (fun k => valid (fx := ⟨⟨Go.Proofs.Tryd.prog, td, [], []⟩, k, [(3, [(3, Sp.dat false (Kd.sl (Kd.int IntKind.u8))), (4, Sp.dat false (Kd.int IntKind.i64)), (0, Sp.dat false (Kd.int IntKind.i64))])]⟩) (fn := Go.Proofs.Tryd.f29) (c := Go.Proofs.Tryd.f29.body.getD .skip) mixed tdOk (ctsNil _ _ _ _ _) Go.Proofs.Tryd.func29 (by kernel_rfl) (by kernel_rfl) (fun x => ?_)) S.s_l01Dec_ok
  kernel_rfl
def ct_s_l01Value : Ct := ⟨[PK.ro Kd.str], true, [(false, [RC.ro (Kd.int IntKind.i64)]), (false, [RC.ro Kd.bool])], S.s_l01Value⟩
theorem v_s_l01Value : Valid Go.Proofs.Tryd.prog gl 36 ct_s_l01Value := by
  refine Valid.less (ps := [PK.ro Kd.str]) (tup := true) (rs := [(false, [RC.ro (Kd.int IntKind.i64)]), (false, [RC.ro Kd.bool])]) (g := P.s_l01Value) (fun k => valid (fx := ⟨⟨Go.Proofs.Tryd.prog, td, [(54, ct_s_l00In), (29, ct_s_l01Dec)], []⟩, k, [(5, [(5, Sp.dat false (Kd.int IntKind.i64)), (0, Sp.dat false Kd.str), (4, Sp.dat false (Kd.int IntKind.i64))])]⟩) (fn := Go.Proofs.Tryd.f36) (c := Go.Proofs.Tryd.f36.body.getD .skip) mixed tdOk (ctsCons v_s_l00In (ctsCons v_s_l01Dec (ctsNil _ _ _ _ _))) Go.Proofs.Tryd.func36 (by kernel_rfl) (by kernel_rfl) (fun x => ?_)) S.s_l01Value_ok
  kernel_rfl
def ct_s_l01Cut : Ct := ⟨[PK.ro Kd.str, PK.ro (Kd.int IntKind.u8)], false, [(false, [RC.ro (Kd.sl Kd.str)])], S.s_l01Cut⟩
theorem v_s_l01Cut : Valid Go.Proofs.Tryd.prog gl 58 ct_s_l01Cut := by
  refine Valid.less (ps := [PK.ro Kd.str, PK.ro (Kd.int IntKind.u8)]) (tup := false) (rs := [(false, [RC.ro (Kd.sl Kd.str)])]) (g := P.s_l01Cut) (fun k => valid (fx := ⟨⟨Go.Proofs.Tryd.prog, td, [], []⟩, k, [(4, [(7, Sp.dat false (Kd.int IntKind.i64)), (0, Sp.dat false Kd.str), (1, Sp.dat false (Kd.int IntKind.u8)),   (5, Sp.own (64) true Kd.str), (6, Sp.dat false (Kd.int IntKind.i64))])]⟩) (fn := Go.Proofs.Tryd.f58) (c := Go.Proofs.Tryd.f58.body.getD .skip) mixed tdOk (ctsNil _ _ _ _ _) Go.Proofs.Tryd.func58 (by kernel_rfl) (by kernel_rfl) (fun x => ?_)) S.s_l01Cut_ok
  kernel_rfl
def ct_s_l01Numbers : Ct := ⟨[PK.ro Kd.str], true, [(false, [RC.own (Kd.int IntKind.i64)]), (false, [RC.ro Kd.bool])], S.s_l01Numbers⟩
theorem v_s_l01Numbers : Valid Go.Proofs.Tryd.prog gl 38 ct_s_l01Numbers := by
  refine Valid.less (ps := [PK.ro Kd.str]) (tup := true) (rs := [(false, [RC.own (Kd.int IntKind.i64)]), (false, [RC.ro Kd.bool])]) (g := P.s_l01Numbers) (fun k => valid (fx := ⟨⟨Go.Proofs.Tryd.prog, td, [(36, ct_s_l01Value), (58, ct_s_l01Cut)], []⟩, k, [(8, [(6, Sp.dat false (Kd.int IntKind.i64)), (5, Sp.dat false (Kd.sl Kd.str)), (4, Sp.own (72) true (Kd.int IntKind.i64))])]⟩) (fn := Go.Proofs.Tryd.f38) (c := Go.Proofs.Tryd.f38.body.getD .skip) mixed tdOk (ctsCons v_s_l01Value (ctsCons v_s_l01Cut (ctsNil _ _ _ _ _))) Go.Proofs.Tryd.func38 (by kernel_rfl) (by kernel_rfl) (fun x => ?_)) S.s_l01Numbers_ok
  kernel_rfl
def ct_s_ReadList : Ct := ⟨[PK.ro Kd.str], true, [(false, [RC.own (Kd.int IntKind.i64)]), (false, [RC.ro Kd.bool])], S.s_ReadList⟩
theorem v_s_ReadList : Valid Go.Proofs.Tryd.prog gl 18 ct_s_ReadList := by
  refine Valid.less (ps := [PK.ro Kd.str]) (tup := true) (rs := [(false, [RC.own (Kd.int IntKind.i64)]), (false, [RC.ro Kd.bool])]) (g := P.s_ReadList) (fun k => valid (fx := ⟨⟨Go.Proofs.Tryd.prog, td, [(38, ct_s_l01Numbers)], []⟩, k, []⟩) (fn := Go.Proofs.Tryd.f18) (c := Go.Proofs.Tryd.f18.body.getD .skip) mixed tdOk (ctsCons v_s_l01Numbers (ctsNil _ _ _ _ _)) Go.Proofs.Tryd.func18 (by kernel_rfl) (by kernel_rfl) (fun x => ?_)) S.s_ReadList_ok
  kernel_rfl
def ct_strconv_ParseInt : Ct := ⟨[PK.ro Kd.str, PK.ro (Kd.int IntKind.i64), PK.ro (Kd.int IntKind.i64)], true, [(false, [RC.ro (Kd.int IntKind.i64)]), (false, [RC.ro Kd.er])], S.strconv_ParseInt⟩
theorem v_strconv_ParseInt (hR : InR gl) (hS : InS gl) : Valid Go.Proofs.Tryd.prog gl 37 ct_strconv_ParseInt := by
  refine told_flat (enters_of Go.Proofs.Tryd.func37 (by kernel_rfl) (by kernel_rfl)) (fun _ _ _ _ _ _ => trivial) (fun w M0 W0 us x γ hl hW ha r hr => ?_)
  obtain ⟨s, b, z, q⟩ := x
  obtain ⟨u1, _, rfl, ⟨c1, h1, h1'⟩, u2, _, rfl, ⟨c2, h2, h2'⟩, u3, _, rfl, ⟨c3, h3, h3'⟩, rfl⟩ := ha
  cases h1'; cases h2'; cases h3'; subst h1; subst h2; subst h3
  unfold S.strconv_ParseInt at hr
  split at hr
  case isFalse => cases hr
  rename_i hc
  obtain ⟨hb, hz, hs⟩ := hc
  dsimp only at hb hz hs hr
  subst hb; subst hz
  obtain ⟨t1, p1, hS⟩ := hS
  obtain ⟨t2, p2, hR⟩ := hR
  have v1 : w.var? Go.Proofs.Tryd.prog "strconv.ErrSyntax" = some #[.iface t1 p1] := laid_var hl hS (by kernel_rfl)
  have v2 : w.var? Go.Proofs.Tryd.prog "strconv.ErrRange" = some #[.iface t2 p2] := laid_var hl hR (by kernel_rfl)
  split at hr
  · rename_i v hv
    cases hr
    refine (Go.Proofs.Tryd.strconv_ParseInt_10_at64_ok s (by omega) v hv w).mono ?_
    rintro e w' ⟨rfl, hw⟩
    refine ⟨[_, _], rfl, ?_, fun M' => ⟨[_], [_], rfl, fun _ => rfl, rfl, [_], rfl, fun _ => rfl, _, rfl, rfl, rfl⟩⟩
    rcases hw with rfl | ⟨t, rfl⟩
    · exact Below.refl _ _
    · exact ⟨rfl, rfl, rfl, by rw [Lib.bytesWorld_size]; omega, fun k hk => Lib.bytesWorld_at_old _ _ _ k (by omega)⟩
  · rename_i hv
    cases hr
    refine (Go.Proofs.Tryd.strconv_ParseInt_10_at64_syntax_var s hs hv t1 p1 w v1).mono ?_
    rintro e w' ⟨N, rfl, _, _, hbl⟩
    exact ⟨[_, _], rfl, hbl, fun M' => ⟨[_], [_], rfl, fun _ => rfl, rfl, [_], rfl, fun _ => rfl, _, rfl, rfl, _, _, rfl⟩⟩
  · rename_i hv
    cases hr
    refine (Go.Proofs.Tryd.strconv_ParseInt_10_at64_range_var s hs hv t2 p2 w v2).mono ?_
    rintro e w' ⟨N, rfl, _, _, hbl⟩
    exact ⟨[_, _], rfl, hbl, fun M' => ⟨[_], [_], rfl, fun _ => rfl, rfl, [_], rfl, fun _ => rfl, _, rfl, rfl, _, _, rfl⟩⟩

def ct_i_in : Ct := ⟨[PK.ro (Kd.int IntKind.i64), PK.ro (Kd.int IntKind.i64), PK.ro (Kd.int IntKind.i64)], false, [(false, [RC.ro Kd.bool])], S.i_in⟩
theorem v_i_in : Valid Go.Proofs.Tryd.prog gl 34 ct_i_in := by
  refine Valid.less (ps := [PK.ro (Kd.int IntKind.i64), PK.ro (Kd.int IntKind.i64), PK.ro (Kd.int IntKind.i64)]) (tup := false) (rs := [(false, [RC.ro Kd.bool])]) (g := P.i_in) (fun k => valid (fx := ⟨⟨Go.Proofs.Tryd.prog, td, [], []⟩, k, []⟩) (fn := Go.Proofs.Tryd.f34) (c := Go.Proofs.Tryd.f34.body.getD .skip) mixed tdOk (ctsNil _ _ _ _ _) Go.Proofs.Tryd.func34 (by kernel_rfl) (by kernel_rfl) (fun x => ?_)) S.i_in_ok
  kernel_rfl
def ct_strconv_FormatInt : Ct := ⟨[PK.ro (Kd.int IntKind.i64), PK.ro (Kd.int IntKind.i64)], false, [(false, [RC.ro Kd.str])], S.strconv_FormatInt⟩
theorem belowGrow (w : World) (k : Nat) (os : Array Obj) : Below w.heap.size w (Go.Sort.grow (w.drewN k) os) := ⟨rfl, rfl, rfl, by simp [Go.Sort.grow, World.drewN], fun b hb => by simp [Go.Sort.grow, World.drewN, Array.getElem?_append_left hb]⟩
theorem v_strconv_FormatInt (hP : InP gl) : Valid Go.Proofs.Tryd.prog gl 30 ct_strconv_FormatInt := by
  refine told_flat (enters_of Go.Proofs.Tryd.func30 (by kernel_rfl) (by kernel_rfl)) (fun _ _ _ _ _ _ => trivial) (fun w M0 W0 us x γ hl hW ha r hr => ?_)
  obtain ⟨n, b, q⟩ := x
  obtain ⟨u1, _, rfl, ⟨c1, h1, h1'⟩, u2, _, rfl, ⟨c2, h2, h2'⟩, rfl⟩ := ha
  cases h1'; cases h2'; subst h1; subst h2
  unfold S.strconv_FormatInt at hr
  split at hr
  case isFalse => cases hr
  rename_i hc
  obtain ⟨hb, h0, h3⟩ := hc
  cases hr
  dsimp only at hb h0 h3
  subst hb
  have htab : Lib.TabIs Go.Proofs.Tryd.prog w "internal/strconv.uint64pow10" .u64 Lib.pow10Tab := laid_var hl hP (by kernel_rfl)
  refine (Go.Proofs.Tryd.strconv_FormatInt_10 n h0 h3 w htab).mono ?_
  rintro e w' ⟨rfl, k, os, rfl⟩
  exact ⟨[_], rfl, belowGrow _ _ _, fun M' => ⟨[_], rfl, fun _ => rfl, rfl⟩⟩

def ct_i_Decimal : Ct := ⟨[PK.ro (Kd.int IntKind.i64)], false, [(false, [RC.ro Kd.str])], S.i_Decimal⟩
theorem v_i_Decimal (hP : InP gl) : Valid Go.Proofs.Tryd.prog gl 11 ct_i_Decimal := by
  refine Valid.less (ps := [PK.ro (Kd.int IntKind.i64)]) (tup := false) (rs := [(false, [RC.ro Kd.str])]) (g := P.i_Decimal) (fun k => valid (fx := ⟨⟨Go.Proofs.Tryd.prog, td, [(30, ct_strconv_FormatInt)], []⟩, k, []⟩) (fn := Go.Proofs.Tryd.f11) (c := Go.Proofs.Tryd.f11.body.getD .skip) mixed tdOk (ctsCons (v_strconv_FormatInt hP) (ctsNil _ _ _ _ _)) Go.Proofs.Tryd.func11 (by kernel_rfl) (by kernel_rfl) (fun x => ?_)) S.i_Decimal_ok
  kernel_rfl
def ct_i_ReadDecimal : Ct := ⟨[PK.ro Kd.str], true, [(false, [RC.ro (Kd.int IntKind.i64)]), (false, [RC.ro Kd.bool])], S.i_ReadDecimal⟩
theorem v_i_ReadDecimal (hP : InP gl) (hR : InR gl) (hS : InS gl) : Valid Go.Proofs.Tryd.prog gl 17 ct_i_ReadDecimal := by
  refine Valid.less (ps := [PK.ro Kd.str]) (tup := true) (rs := [(false, [RC.ro (Kd.int IntKind.i64)]), (false, [RC.ro Kd.bool])]) (g := P.i_ReadDecimal) (fun k => valid (fx := ⟨⟨Go.Proofs.Tryd.prog, td, [(37, ct_strconv_ParseInt), (34, ct_i_in), (11, ct_i_Decimal)], []⟩, k, []⟩) (fn := Go.Proofs.Tryd.f17) (c := Go.Proofs.Tryd.f17.body.getD .skip) mixed tdOk (ctsCons (v_strconv_ParseInt hR hS) (ctsCons v_i_in (ctsCons (v_i_Decimal hP) (ctsNil _ _ _ _ _)))) Go.Proofs.Tryd.func17 (by kernel_rfl) (by kernel_rfl) (fun x => ?_)) S.i_ReadDecimal_ok
  kernel_rfl
def ct_strings_Split : Ct := ⟨[PK.ro Kd.str, PK.ro Kd.str], false, [(false, [RC.own Kd.str])], S.strings_Split⟩
theorem v_strings_Split (hM : InM gl) : Valid Go.Proofs.Tryd.prog gl 59 ct_strings_Split := by
  refine ⟨enters_of Go.Proofs.Tryd.func59 (by kernel_rfl) (by kernel_rfl), fun w M0 W0 us x γ hM0 hW hl ha hd r hr => ?_⟩
  obtain ⟨s, b, q⟩ := x
  obtain ⟨u1, _, rfl, ⟨c1, h1, h1'⟩, u2, _, rfl, ⟨c2, h2, h2'⟩, rfl⟩ := ha
  cases h1'; cases h2'; subst h1; subst h2
  unfold ct_strings_Split S.strings_Split at hr
  dsimp only at hr
  split at hr
  case isFalse => cases hr
  rename_i hc
  obtain ⟨hb, hs⟩ := hc
  cases hr
  obtain ⟨m, hm⟩ := hM
  have hcell : w.cell? ⟨3, 0, none⟩ = some (.int .i64 m) := laid_cell hl hm
  refine (Go.Proofs.Tryd.strings_Split s b m w hs hcell hb).mono ?_
  rintro e w' ⟨rfl, rfl⟩
  have hlen : (Lib.splitB b 0 (Lib.countB s b) s).length = Lib.countB s b + 1 := Lib.splitB_all b hb 0 _ s rfl
  generalize hxs : Lib.splitB b 0 (Lib.countB s b) s = xs at hlen ⊢
  have hno : ∀ (b o : Nat), ¬ fp (AO.no) (CO.no) b o := fun b o hf => hf
  have hz : (Kd.str).sz = 1 := rfl
  refine ⟨[_], rfl, fr_of_below ((Below.refl _ w).alloc (Nat.le_refl _) _), fun j => if j = 0 then (.arr true false .str xs, .arr (some (w.heap.size, 0)) xs.length xs.length) else (.no, .no), ?_, ?_, ?_, trivial⟩
  · intro j b' o hf
    by_cases hj : j = 0
    · subst hj
      simp only [if_true] at hf
      exact ⟨by simp [ct_strings_Split, ownR, ownS], by rw [hf.1]; exact Nat.le_refl _⟩
    · simp only [hj, if_false] at hf
      exact (hno _ _ hf).elim
  · intro j j' b' o hne hf hf'
    by_cases hj : j = 0
    · by_cases hj' : j' = 0
      · exact hne (hj.trans hj'.symm)
      · simp only [hj', if_false] at hf'
        exact hno _ _ hf'
    · simp only [hj, if_false] at hf
      exact hno _ _ hf
  · refine ⟨[_], rfl, fun _ => rfl, _, some (w.heap.size, 0), xs.length, xs.length, rfl, by simp only [if_true], ?_, ⟨_, by rw [← hlen], Nat.le_refl _, fun _ => ⟨_, _, rfl, rfl⟩⟩⟩
    simp only [if_true]
    refine ⟨⟨Nat.le_refl _, fun _ => rfl⟩, Nat.le_refl _, fun _ => rfl, (fun h => by cases h), ?_⟩
    rintro b' o' hbo
    cases hbo
    refine ⟨fun i y hy => ⟨[.string y], rfl, fun j v hv => ?_, fun h => by cases h⟩, fun _ j hj => ⟨?_, World.frozen?_alloc_at _ _ _ _ rfl⟩⟩
    · have hj : j = 0 := by
        by_cases hj : j = 0
        · exact hj
        · rw [List.getElem?_eq_none (by simp; omega)] at hv
          cases hv
      subst hj
      cases hv
      rw [World.cell?_alloc_at _ _ _ _ rfl, hz]
      simp [hy]
    · rw [hz, Nat.mul_one] at hj
      rw [World.cell?_alloc_at _ _ _ _ rfl]
      exact ⟨.string xs[j], by simp [hj]⟩

def ct_i_parted : Ct := ⟨[PK.ro Kd.str], false, [(false, [RC.own Kd.str])], S.i_parted⟩
theorem v_i_parted (hM : InM gl) : Valid Go.Proofs.Tryd.prog gl 39 ct_i_parted := by
  refine Valid.less (ps := [PK.ro Kd.str]) (tup := false) (rs := [(false, [RC.own Kd.str])]) (g := P.i_parted) (fun k => valid (fx := ⟨⟨Go.Proofs.Tryd.prog, td, [(59, ct_strings_Split)], []⟩, k, []⟩) (fn := Go.Proofs.Tryd.f39) (c := Go.Proofs.Tryd.f39.body.getD .skip) mixed tdOk (ctsCons (v_strings_Split hM) (ctsNil _ _ _ _ _)) Go.Proofs.Tryd.func39 (by kernel_rfl) (by kernel_rfl) (fun x => ?_)) S.i_parted_ok
  kernel_rfl
def ct_i_ReadList : Ct := ⟨[PK.ro Kd.str], true, [(false, [RC.own (Kd.int IntKind.i64)]), (false, [RC.ro Kd.bool])], S.i_ReadList⟩
theorem v_i_ReadList (hM : InM gl) (hP : InP gl) (hR : InR gl) (hS : InS gl) : Valid Go.Proofs.Tryd.prog gl 19 ct_i_ReadList := by
  refine Valid.less (ps := [PK.ro Kd.str]) (tup := true) (rs := [(false, [RC.own (Kd.int IntKind.i64)]), (false, [RC.ro Kd.bool])]) (g := P.i_ReadList) (fun k => valid (fx := ⟨⟨Go.Proofs.Tryd.prog, td, [(17, ct_i_ReadDecimal), (39, ct_i_parted)], []⟩, k, [(6, [(18, Sp.dat false (Kd.int IntKind.i64)), (17, Sp.dat false (Kd.int IntKind.i64)), (16, Sp.dat false (Kd.sl Kd.str)),   (4, Sp.own (80) true (Kd.int IntKind.i64))])]⟩) (fn := Go.Proofs.Tryd.f19) (c := Go.Proofs.Tryd.f19.body.getD .skip) mixed tdOk (ctsCons (v_i_ReadDecimal hP hR hS) (ctsCons (v_i_parted hM) (ctsNil _ _ _ _ _))) Go.Proofs.Tryd.func19 (by kernel_rfl) (by kernel_rfl) (fun x => ?_)) S.i_ReadList_ok
  kernel_rfl
def ct_l_FnExactReadList : Ct := ⟨[PK.ro Kd.str], false, [(false, [RC.ro Kd.bool])], S.l_FnExactReadList⟩
theorem v_l_FnExactReadList (hM : InM gl) (hP : InP gl) (hR : InR gl) (hS : InS gl) : Valid Go.Proofs.Tryd.prog gl 6 ct_l_FnExactReadList := by
  refine Valid.less (ps := [PK.ro Kd.str]) (tup := false) (rs := [(false, [RC.ro Kd.bool])]) (g := P.l_FnExactReadList) (fun k => valid (fx := ⟨⟨Go.Proofs.Tryd.prog, td, [(20, ct_l_eqInt64S), (21, ct_l_markInt64S), (22, ct_l_heldInt64S), (18, ct_s_ReadList), (19, ct_i_ReadList)], []⟩, k, []⟩) (fn := Go.Proofs.Tryd.f6) (c := Go.Proofs.Tryd.f6.body.getD .skip) mixed tdOk (ctsCons v_l_eqInt64S (ctsCons v_l_markInt64S (ctsCons v_l_heldInt64S (ctsCons v_s_ReadList (ctsCons (v_i_ReadList hM hP hR hS) (ctsNil _ _ _ _ _)))))) Go.Proofs.Tryd.func6 (by kernel_rfl) (by kernel_rfl) (fun x => ?_)) S.l_FnExactReadList_ok
  kernel_rfl
end Go.Cm.LnD6
end
