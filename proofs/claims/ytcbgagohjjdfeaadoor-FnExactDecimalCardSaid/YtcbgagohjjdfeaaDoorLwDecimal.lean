import Derived.Test.YtcbgagohjjdfeaaDoorPlD3
set_option linter.unusedVariables false
namespace Go.Cm
theorem wf64 {n : Int} (h : (Lit.int .i64 n).wf = true) : -9223372036854775808 ≤ n ∧ n ≤ 9223372036854775807 := by
  simp only [Lit.wf, Bool.and_eq_true, decide_eq_true_eq] at h
  exact h
theorem Decimal_true (x : PTy [PK.ro (Kd.int IntKind.i64)]) (h : BdA _ x) : ∃ m, S.l_FnExactDecimal x = some (true, m) := by
  obtain ⟨n, q⟩ := x
  obtain ⟨h1, _⟩ := h
  obtain ⟨h2, h3⟩ := wf64 h1
  refine ⟨(), ?_⟩
  show P.l_FnExactDecimal 0 (n, ()) = some (true, ())
  unfold P.l_FnExactDecimal
  dsimp only
  have e1 : S.s_Decimal (n, ()) = some (⟨(Go.Lib.itoa n).toArray⟩, ()) := by
    unfold S.s_Decimal P.s_Decimal S.s_l01Dec
    dsimp only
    rw [if_pos ⟨h2, h3⟩]
    rfl
  have e2 : S.i_Decimal (n, ()) = some (⟨(Go.Lib.itoa n).toArray⟩, ()) := by
    unfold S.i_Decimal P.i_Decimal S.strconv_FormatInt
    dsimp only
    rw [if_pos ⟨rfl, h2, h3⟩]
    rfl
  rw [e1, e2, Option.bind_some, Option.bind_some]
  simp
end Go.Cm
