import Derived.Test.YtcbgagohjjdfeaaDoorPlIsFraction
import Derived.Test.YtcbgagohjjdfeaaDoorCmZL
set_option linter.unusedVariables false
namespace Go.Cm
theorem IsFraction_true (x : PTy [PK.ro Kd.str]) (h : BdA _ x) (hz : SzA _ x) : ∃ m, S.l_FnExactIsFraction x = some (true, m) := by
  obtain ⟨s, q⟩ := x
  refine ⟨(), ?_⟩
  show P.l_FnExactIsFraction 0 (s, ()) = some (true, ())
  unfold P.l_FnExactIsFraction
  dsimp only
  by_cases hs : (s.size : Int) > 1000000
  · rw [if_pos (decide_eq_true hs)]
  · rw [if_neg (by simpa using hs)]
    have e1 : S.s_IsFraction (s, ()) = some ((rdRat s.data.toList).2, ()) := by
      unfold S.s_IsFraction P.s_IsFraction S.s_l01Parse
      dsimp only
      rw [if_pos (by omega), Option.bind_some]
    have e2 : S.i_IsFraction (s, ()) = some ((rdRat s.data.toList).2, ()) := by
      unfold S.i_IsFraction P.i_IsFraction S.i_readRat
      dsimp only
      rw [if_pos (by omega), Option.bind_some]
    rw [e1, e2, Option.bind_some, Option.bind_some]
    simp
end Go.Cm
