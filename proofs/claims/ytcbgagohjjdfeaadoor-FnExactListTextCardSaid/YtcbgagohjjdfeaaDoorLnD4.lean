import Derived.Test.YtcbgagohjjdfeaaDoorPlD4
import Derived.Test.YtcbgagohjjdfeaaDoorChecked
import Derived.Test.YtcbgagohjjdfeaaDoorTrydShelf
set_option linter.unusedVariables false
set_option maxRecDepth 100000
noncomputable section
namespace Go.Cm.LnD4
open Go.RowKit
variable {gl : List (Nat × List Value)}
theorem td2 : TdOk Go.Proofs.Tryd.prog 2 ⟨Kd.int IntKind.i64, 8, false, 0, []⟩ := .of (by kernel_rfl) (.inr (by kernel_rfl)) rfl (Go.Proofs.Tryd.underlying2)
theorem td3 : TdOk Go.Proofs.Tryd.prog 3 ⟨Kd.int IntKind.i64, 8, false, 0, []⟩ := .of (by kernel_rfl) (.inr (by kernel_rfl)) rfl (Go.Proofs.Tryd.underlying3)
theorem td4 : TdOk Go.Proofs.Tryd.prog 4 ⟨Kd.bool, 1, false, 0, []⟩ := .of (by kernel_rfl) (.inr (by kernel_rfl)) rfl (Go.Proofs.Tryd.underlying4)
theorem td5 : TdOk Go.Proofs.Tryd.prog 5 ⟨Kd.int IntKind.u8, 1, false, 0, []⟩ := .of (by kernel_rfl) (.inr (by kernel_rfl)) rfl (Go.Proofs.Tryd.underlying5)
theorem td9 : TdOk Go.Proofs.Tryd.prog 9 ⟨Kd.str, 16, false, 0, []⟩ := .of (by kernel_rfl) (.inr (by kernel_rfl)) rfl (Go.Proofs.Tryd.underlying9)
theorem td24 : TdOk Go.Proofs.Tryd.prog 24 ⟨Kd.sl (Kd.int IntKind.i64), 24, false, 2, []⟩ := .of (by kernel_rfl) (.inr (by kernel_rfl)) rfl (Go.Proofs.Tryd.underlying24)
theorem td43 : TdOk Go.Proofs.Tryd.prog 43 ⟨Kd.sl Kd.str, 24, false, 9, []⟩ := .of (by kernel_rfl) (.inr (by kernel_rfl)) rfl (Go.Proofs.Tryd.underlying43)
theorem td75 : TdOk Go.Proofs.Tryd.prog 75 ⟨Kd.sl (Kd.int IntKind.u8), 24, false, 5, []⟩ := .of (by kernel_rfl) (.inr (by kernel_rfl)) rfl (Go.Proofs.Tryd.underlying75)
def td : List (Nat × Td) := [(2, ⟨Kd.int IntKind.i64, 8, false, 0, []⟩), (3, ⟨Kd.int IntKind.i64, 8, false, 0, []⟩), (4, ⟨Kd.bool, 1, false, 0, []⟩), (5, ⟨Kd.int IntKind.u8, 1, false, 0, []⟩), (9, ⟨Kd.str, 16, false, 0, []⟩), (24, ⟨Kd.sl (Kd.int IntKind.i64), 24, false, 2, []⟩), (43, ⟨Kd.sl Kd.str, 24, false, 9, []⟩), (75, ⟨Kd.sl (Kd.int IntKind.u8), 24, false, 5, []⟩)]
theorem tdOk : TdsOk ⟨Go.Proofs.Tryd.prog, td, [], []⟩ Go.Proofs.Tryd.prog := tdsCons td2 (tdsCons td3 (tdsCons td4 (tdsCons td5 (tdsCons td9 (tdsCons td24 (tdsCons td43 (tdsCons td75 (tdsNil _ _ _ _))))))))
theorem mixed : Go.Proofs.Tryd.prog.follows .mixedOrders = true := by kernel_rfl
/-- Package-level variables that are laid. -/
def InP (gl : List (Nat × List Value)) : Prop := (0, Go.Lib.pow10Tab.map fun z => Value.int .u64 z) ∈ gl
def InM (gl : List (Nat × List Value)) : Prop := ∃ m, (3, [Value.int .i64 m]) ∈ gl
def InS (gl : List (Nat × List Value)) : Prop := ∃ t p, (1, [Value.iface t p]) ∈ gl
def InR (gl : List (Nat × List Value)) : Prop := ∃ t p, (2, [Value.iface t p]) ∈ gl
def ct_l_roomBehind : Ct := ⟨[PK.ro (Kd.int IntKind.i64)], false, [(false, [RC.ro (Kd.int IntKind.i64)])], S.l_roomBehind⟩
theorem v_l_roomBehind : Valid Go.Proofs.Tryd.prog gl 33 ct_l_roomBehind := by
  refine Valid.less (ps := [PK.ro (Kd.int IntKind.i64)]) (tup := false) (rs := [(false, [RC.ro (Kd.int IntKind.i64)])]) (g := P.l_roomBehind) (fun k => valid (fx := ⟨⟨Go.Proofs.Tryd.prog, td, [], []⟩, k, []⟩) (fn := Go.Proofs.Tryd.f33) (c := Go.Proofs.Tryd.f33.body.getD .skip) mixed tdOk (ctsNil _ _ _ _ _) Go.Proofs.Tryd.func33 (by kernel_rfl) (by kernel_rfl) (fun x => ?_)) S.l_roomBehind_ok
  kernel_rfl
def ct_l_toInt64S : Ct := ⟨[PK.bo (Kd.sl (Kd.int IntKind.i64)), PK.ro Kd.bool], false, [(false, [RC.ro (Kd.sv (Kd.int IntKind.i64))])], S.l_toInt64S⟩
theorem v_l_toInt64S : Valid Go.Proofs.Tryd.prog gl 13 ct_l_toInt64S := by
  refine Valid.less (ps := [PK.bo (Kd.sl (Kd.int IntKind.i64)), PK.ro Kd.bool]) (tup := false) (rs := [(false, [RC.ro (Kd.sv (Kd.int IntKind.i64))])]) (g := P.l_toInt64S) (fun k => valid (fx := ⟨⟨Go.Proofs.Tryd.prog, td, [(33, ct_l_roomBehind)], []⟩, k, [(9, [(7, Sp.dat false (Kd.int IntKind.i64)), (5, Sp.own (160) true (Kd.int IntKind.i64)),   (0, Sp.dat true (Kd.sl (Kd.int IntKind.i64)))]), (5, [(6, Sp.dat false (Kd.int IntKind.i64)), (0, Sp.dat true (Kd.sl (Kd.int IntKind.i64))),   (5, Sp.own (160) true (Kd.int IntKind.i64))])]⟩) (fn := Go.Proofs.Tryd.f13) (c := Go.Proofs.Tryd.f13.body.getD .skip) mixed tdOk (ctsCons v_l_roomBehind (ctsNil _ _ _ _ _)) Go.Proofs.Tryd.func13 (by kernel_rfl) (by kernel_rfl) (fun x => ?_)) S.l_toInt64S_ok
  kernel_rfl
def ct_l_eqInt64S : Ct := ⟨[PK.bo (Kd.sl (Kd.int IntKind.i64)), PK.bo (Kd.sl (Kd.int IntKind.i64))], false, [(false, [RC.ro Kd.bool])], S.l_eqInt64S⟩
theorem v_l_eqInt64S : Valid Go.Proofs.Tryd.prog gl 20 ct_l_eqInt64S := by
  refine Valid.less (ps := [PK.bo (Kd.sl (Kd.int IntKind.i64)), PK.bo (Kd.sl (Kd.int IntKind.i64))]) (tup := false) (rs := [(false, [RC.ro Kd.bool])]) (g := P.l_eqInt64S) (fun k => valid (fx := ⟨⟨Go.Proofs.Tryd.prog, td, [], []⟩, k, [(4, [(5, Sp.dat false (Kd.int IntKind.i64)), (0, Sp.dat true (Kd.sl (Kd.int IntKind.i64))),   (1, Sp.dat true (Kd.sl (Kd.int IntKind.i64)))])]⟩) (fn := Go.Proofs.Tryd.f20) (c := Go.Proofs.Tryd.f20.body.getD .skip) mixed tdOk (ctsNil _ _ _ _ _) Go.Proofs.Tryd.func20 (by kernel_rfl) (by kernel_rfl) (fun x => ?_)) S.l_eqInt64S_ok
  kernel_rfl
def ct_l_intactInt64S : Ct := ⟨[PK.bo (Kd.sv (Kd.int IntKind.i64)), PK.bo (Kd.sv (Kd.int IntKind.i64))], false, [(false, [RC.ro Kd.bool])], S.l_intactInt64S⟩
theorem v_l_intactInt64S : Valid Go.Proofs.Tryd.prog gl 15 ct_l_intactInt64S := by
  refine Valid.less (ps := [PK.bo (Kd.sv (Kd.int IntKind.i64)), PK.bo (Kd.sv (Kd.int IntKind.i64))]) (tup := false) (rs := [(false, [RC.ro Kd.bool])]) (g := P.l_intactInt64S) (fun k => valid (fx := ⟨⟨Go.Proofs.Tryd.prog, td, [(33, ct_l_roomBehind), (20, ct_l_eqInt64S)], []⟩, k, []⟩) (fn := Go.Proofs.Tryd.f15) (c := Go.Proofs.Tryd.f15.body.getD .skip) mixed tdOk (ctsCons v_l_roomBehind (ctsCons v_l_eqInt64S (ctsNil _ _ _ _ _))) Go.Proofs.Tryd.func15 (by kernel_rfl) (by kernel_rfl) (fun x => ?_)) S.l_intactInt64S_ok
  kernel_rfl
def ct_s_l00In : Ct := ⟨[PK.ro (Kd.int IntKind.i64), PK.ro (Kd.int IntKind.i64), PK.ro (Kd.int IntKind.i64)], false, [(false, [RC.ro Kd.bool])], S.s_l00In⟩
theorem v_s_l00In : Valid Go.Proofs.Tryd.prog gl 54 ct_s_l00In := by
  refine Valid.less (ps := [PK.ro (Kd.int IntKind.i64), PK.ro (Kd.int IntKind.i64), PK.ro (Kd.int IntKind.i64)]) (tup := false) (rs := [(false, [RC.ro Kd.bool])]) (g := P.s_l00In) (fun k => valid (fx := ⟨⟨Go.Proofs.Tryd.prog, td, [], []⟩, k, []⟩) (fn := Go.Proofs.Tryd.f54) (c := Go.Proofs.Tryd.f54.body.getD .skip) mixed tdOk (ctsNil _ _ _ _ _) Go.Proofs.Tryd.func54 (by kernel_rfl) (by kernel_rfl) (fun x => ?_)) S.s_l00In_ok
  kernel_rfl
def ct_s_l01Few : Ct := ⟨[PK.bo (Kd.sl (Kd.int IntKind.i64))], false, [(false, [RC.ro Kd.bool])], S.s_l01Few⟩
theorem v_s_l01Few : Valid Go.Proofs.Tryd.prog gl 31 ct_s_l01Few := by
  refine Valid.less (ps := [PK.bo (Kd.sl (Kd.int IntKind.i64))]) (tup := false) (rs := [(false, [RC.ro Kd.bool])]) (g := P.s_l01Few) (fun k => valid (fx := ⟨⟨Go.Proofs.Tryd.prog, td, [(54, ct_s_l00In)], []⟩, k, [(2, [(3, Sp.dat false (Kd.int IntKind.i64)), (0, Sp.dat true (Kd.sl (Kd.int IntKind.i64)))])]⟩) (fn := Go.Proofs.Tryd.f31) (c := Go.Proofs.Tryd.f31.body.getD .skip) mixed tdOk (ctsCons v_s_l00In (ctsNil _ _ _ _ _)) Go.Proofs.Tryd.func31 (by kernel_rfl) (by kernel_rfl) (fun x => ?_)) S.s_l01Few_ok
  kernel_rfl
def ct_s_l01Dec : Ct := ⟨[PK.ro (Kd.int IntKind.i64)], false, [(false, [RC.ro Kd.str])], S.s_l01Dec⟩
theorem v_s_l01Dec : Valid Go.Proofs.Tryd.prog gl 29 ct_s_l01Dec := by
  refine Valid.less (ps := [PK.ro (Kd.int IntKind.i64)]) (tup := false) (rs := [(false, [RC.ro Kd.str])]) (g := P.s_l01Dec) (fun k => valid (fx := ⟨⟨Go.Proofs.Tryd.prog, td, [], []⟩, k, [(3, [(3, Sp.dat false (Kd.sl (Kd.int IntKind.u8))), (4, Sp.dat false (Kd.int IntKind.i64)), (0, Sp.dat false (Kd.int IntKind.i64))])]⟩) (fn := Go.Proofs.Tryd.f29) (c := Go.Proofs.Tryd.f29.body.getD .skip) mixed tdOk (ctsNil _ _ _ _ _) Go.Proofs.Tryd.func29 (by kernel_rfl) (by kernel_rfl) (fun x => ?_)) S.s_l01Dec_ok
  kernel_rfl
def ct_s_l01Text : Ct := ⟨[PK.bo (Kd.sl (Kd.int IntKind.i64))], false, [(false, [RC.ro Kd.str])], S.s_l01Text⟩
theorem v_s_l01Text : Valid Go.Proofs.Tryd.prog gl 32 ct_s_l01Text := by
  refine Valid.less (ps := [PK.bo (Kd.sl (Kd.int IntKind.i64))]) (tup := false) (rs := [(false, [RC.ro Kd.str])]) (g := P.s_l01Text) (fun k => valid (fx := ⟨⟨Go.Proofs.Tryd.prog, td, [(29, ct_s_l01Dec)], []⟩, k, [(5, [(4, Sp.dat false (Kd.int IntKind.i64)), (0, Sp.dat true (Kd.sl (Kd.int IntKind.i64))), (3, Sp.dat false Kd.str)])]⟩) (fn := Go.Proofs.Tryd.f32) (c := Go.Proofs.Tryd.f32.body.getD .skip) mixed tdOk (ctsCons v_s_l01Dec (ctsNil _ _ _ _ _)) Go.Proofs.Tryd.func32 (by kernel_rfl) (by kernel_rfl) (fun x => ?_)) S.s_l01Text_ok
  kernel_rfl
def ct_s_ListText : Ct := ⟨[PK.bo (Kd.sl (Kd.int IntKind.i64))], true, [(false, [RC.ro Kd.str]), (false, [RC.ro Kd.bool])], S.s_ListText⟩
theorem v_s_ListText : Valid Go.Proofs.Tryd.prog gl 12 ct_s_ListText := by
  refine Valid.less (ps := [PK.bo (Kd.sl (Kd.int IntKind.i64))]) (tup := true) (rs := [(false, [RC.ro Kd.str]), (false, [RC.ro Kd.bool])]) (g := P.s_ListText) (fun k => valid (fx := ⟨⟨Go.Proofs.Tryd.prog, td, [(31, ct_s_l01Few), (32, ct_s_l01Text)], []⟩, k, []⟩) (fn := Go.Proofs.Tryd.f12) (c := Go.Proofs.Tryd.f12.body.getD .skip) mixed tdOk (ctsCons v_s_l01Few (ctsCons v_s_l01Text (ctsNil _ _ _ _ _))) Go.Proofs.Tryd.func12 (by kernel_rfl) (by kernel_rfl) (fun x => ?_)) S.s_ListText_ok
  kernel_rfl
def ct_i_in : Ct := ⟨[PK.ro (Kd.int IntKind.i64), PK.ro (Kd.int IntKind.i64), PK.ro (Kd.int IntKind.i64)], false, [(false, [RC.ro Kd.bool])], S.i_in⟩
theorem v_i_in : Valid Go.Proofs.Tryd.prog gl 34 ct_i_in := by
  refine Valid.less (ps := [PK.ro (Kd.int IntKind.i64), PK.ro (Kd.int IntKind.i64), PK.ro (Kd.int IntKind.i64)]) (tup := false) (rs := [(false, [RC.ro Kd.bool])]) (g := P.i_in) (fun k => valid (fx := ⟨⟨Go.Proofs.Tryd.prog, td, [], []⟩, k, []⟩) (fn := Go.Proofs.Tryd.f34) (c := Go.Proofs.Tryd.f34.body.getD .skip) mixed tdOk (ctsNil _ _ _ _ _) Go.Proofs.Tryd.func34 (by kernel_rfl) (by kernel_rfl) (fun x => ?_)) S.i_in_ok
  kernel_rfl
def ct_strconv_FormatInt : Ct := ⟨[PK.ro (Kd.int IntKind.i64), PK.ro (Kd.int IntKind.i64)], false, [(false, [RC.ro Kd.str])], S.strconv_FormatInt⟩
theorem belowGrow (w : World) (k : Nat) (os : Array Obj) : Below w.heap.size w (Go.Sort.grow (w.drewN k) os) := ⟨rfl, rfl, rfl, by simp [Go.Sort.grow, World.drewN], fun b hb => by simp [Go.Sort.grow, World.drewN, Array.getElem?_append_left hb]⟩
theorem v_strconv_FormatInt (hP : InP gl) : Valid Go.Proofs.Tryd.prog gl 30 ct_strconv_FormatInt := by
  refine told_flat (enters_of Go.Proofs.Tryd.func30 (by kernel_rfl) (by kernel_rfl)) (fun _ _ _ _ _ _ => trivial) (fun w M0 W0 us x γ hl hW ha r hr => ?_)
  obtain ⟨n, b, q⟩ := x
  obtain ⟨u1, _, rfl, ⟨c1, h1, h1'⟩, u2, _, rfl, ⟨c2, h2, h2'⟩, rfl⟩ := ha
  cases h1'; cases h2'; subst h1; subst h2
  unfold S.strconv_FormatInt at hr
  split at hr
  case isFalse => cases hr
  rename_i hc
  obtain ⟨hb, h0, h3⟩ := hc
  cases hr
  dsimp only at hb h0 h3
  subst hb
  have htab : Lib.TabIs Go.Proofs.Tryd.prog w "internal/strconv.uint64pow10" .u64 Lib.pow10Tab := laid_var hl hP (by kernel_rfl)
  refine (Go.Proofs.Tryd.strconv_FormatInt_10 n h0 h3 w htab).mono ?_
  rintro e w' ⟨rfl, k, os, rfl⟩
  exact ⟨[_], rfl, belowGrow _ _ _, fun M' => ⟨[_], rfl, fun _ => rfl, rfl⟩⟩

def ct_i_Decimal : Ct := ⟨[PK.ro (Kd.int IntKind.i64)], false, [(false, [RC.ro Kd.str])], S.i_Decimal⟩
theorem v_i_Decimal (hP : InP gl) : Valid Go.Proofs.Tryd.prog gl 11 ct_i_Decimal := by
  refine Valid.less (ps := [PK.ro (Kd.int IntKind.i64)]) (tup := false) (rs := [(false, [RC.ro Kd.str])]) (g := P.i_Decimal) (fun k => valid (fx := ⟨⟨Go.Proofs.Tryd.prog, td, [(30, ct_strconv_FormatInt)], []⟩, k, []⟩) (fn := Go.Proofs.Tryd.f11) (c := Go.Proofs.Tryd.f11.body.getD .skip) mixed tdOk (ctsCons (v_strconv_FormatInt hP) (ctsNil _ _ _ _ _)) Go.Proofs.Tryd.func11 (by kernel_rfl) (by kernel_rfl) (fun x => ?_)) S.i_Decimal_ok
  kernel_rfl
def ct_strings_Join : Ct := ⟨[PK.bo (Kd.sl Kd.str), PK.ro Kd.str], false, [(false, [RC.ro Kd.str])], S.strings_Join⟩
theorem v_strings_Join : Valid Go.Proofs.Tryd.prog gl 55 ct_strings_Join := by
  refine told_flat (enters_of Go.Proofs.Tryd.func55 (by kernel_rfl) (by kernel_rfl)) (fun _ _ _ _ _ _ => trivial) (fun w M0 W0 us x γ hl hW ha r hr => ?_)
  obtain ⟨xs, sep, q⟩ := x
  obtain ⟨u1, _, rfl, ⟨c1, h1, h1'⟩, u2, _, rfl, ⟨c2, h2, h2'⟩, rfl⟩ := ha
  cases h2'; subst h2
  obtain ⟨A, c, rfl, hlc, hel⟩ := h1'
  subst h1
  unfold S.strings_Join at hr
  split at hr
  case isFalse => cases hr
  rename_i hc
  obtain ⟨hn, hj⟩ := hc
  cases hr
  dsimp only at hn hj
  by_cases h0 : xs.length = 0
  · have : xs = [] := List.eq_nil_of_length_eq_zero h0
    subst this
    refine (Go.Proofs.Tryd.strings_Join_none A c sep w).mono ?_
    rintro e w' ⟨rfl, rfl⟩
    exact ⟨[_], rfl, Below.refl _ _, fun M' => ⟨[_], rfl, fun _ => rfl, rfl⟩⟩
  · obtain ⟨b, o, rfl, hcell⟩ := hel h0
    have hcells : ∀ (j : Nat) x, xs[j]? = some x → w.cell? ⟨b, o + j, none⟩ = some (.string x) := by
      intro j x hx
      obtain ⟨es, e1, e2⟩ := hcell j x hx
      cases e1
      have := (e2 0 _ rfl).1
      simpa [Kd.sz] using this
    have hbk : b < w.heap.size := by
      have := hcells 0 xs[0] (List.getElem?_eq_getElem (by omega))
      exact World.block_lt_of_cell? _ _ this
    refine (Go.Proofs.Tryd.strings_Join b o c xs sep w hcells hbk hn hlc hj).mono ?_
    rintro e w' ⟨rfl, hbl⟩
    exact ⟨[_], rfl, hbl, fun M' => ⟨[_], rfl, fun _ => rfl, rfl⟩⟩

def ct_i_joined : Ct := ⟨[PK.bo (Kd.sl Kd.str)], false, [(false, [RC.ro Kd.str])], S.i_joined⟩
theorem v_i_joined : Valid Go.Proofs.Tryd.prog gl 35 ct_i_joined := by
  refine Valid.less (ps := [PK.bo (Kd.sl Kd.str)]) (tup := false) (rs := [(false, [RC.ro Kd.str])]) (g := P.i_joined) (fun k => valid (fx := ⟨⟨Go.Proofs.Tryd.prog, td, [(55, ct_strings_Join)], []⟩, k, []⟩) (fn := Go.Proofs.Tryd.f35) (c := Go.Proofs.Tryd.f35.body.getD .skip) mixed tdOk (ctsCons v_strings_Join (ctsNil _ _ _ _ _)) Go.Proofs.Tryd.func35 (by kernel_rfl) (by kernel_rfl) (fun x => ?_)) S.i_joined_ok
  kernel_rfl
def ct_i_ListText : Ct := ⟨[PK.bo (Kd.sl (Kd.int IntKind.i64))], true, [(false, [RC.ro Kd.str]), (false, [RC.ro Kd.bool])], S.i_ListText⟩
theorem v_i_ListText (hP : InP gl) : Valid Go.Proofs.Tryd.prog gl 14 ct_i_ListText := by
  refine Valid.less (ps := [PK.bo (Kd.sl (Kd.int IntKind.i64))]) (tup := true) (rs := [(false, [RC.ro Kd.str]), (false, [RC.ro Kd.bool])]) (g := P.i_ListText) (fun k => valid (fx := ⟨⟨Go.Proofs.Tryd.prog, td, [(34, ct_i_in), (11, ct_i_Decimal), (35, ct_i_joined)], []⟩, k, [(5, [(13, Sp.dat false (Kd.int IntKind.i64)), (12, Sp.dat false (Kd.int IntKind.i64)), (11, Sp.dat true (Kd.sl (Kd.int IntKind.i64))),   (4, Sp.own (80) true Kd.str)])]⟩) (fn := Go.Proofs.Tryd.f14) (c := Go.Proofs.Tryd.f14.body.getD .skip) mixed tdOk (ctsCons v_i_in (ctsCons (v_i_Decimal hP) (ctsCons v_i_joined (ctsNil _ _ _ _ _)))) Go.Proofs.Tryd.func14 (by kernel_rfl) (by kernel_rfl) (fun x => ?_)) S.i_ListText_ok
  kernel_rfl
def ct_l_FnExactListText : Ct := ⟨[PK.bo (Kd.sl (Kd.int IntKind.i64))], false, [(false, [RC.ro Kd.bool])], S.l_FnExactListText⟩
theorem v_l_FnExactListText (hP : InP gl) : Valid Go.Proofs.Tryd.prog gl 4 ct_l_FnExactListText := by
  refine Valid.less (ps := [PK.bo (Kd.sl (Kd.int IntKind.i64))]) (tup := false) (rs := [(false, [RC.ro Kd.bool])]) (g := P.l_FnExactListText) (fun k => valid (fx := ⟨⟨Go.Proofs.Tryd.prog, td, [(13, ct_l_toInt64S), (15, ct_l_intactInt64S), (12, ct_s_ListText), (14, ct_i_ListText)], []⟩, k, []⟩) (fn := Go.Proofs.Tryd.f4) (c := Go.Proofs.Tryd.f4.body.getD .skip) mixed tdOk (ctsCons v_l_toInt64S (ctsCons v_l_intactInt64S (ctsCons v_s_ListText (ctsCons (v_i_ListText hP) (ctsNil _ _ _ _ _))))) Go.Proofs.Tryd.func4 (by kernel_rfl) (by kernel_rfl) (fun x => ?_)) S.l_FnExactListText_ok
  kernel_rfl
end Go.Cm.LnD4
end
