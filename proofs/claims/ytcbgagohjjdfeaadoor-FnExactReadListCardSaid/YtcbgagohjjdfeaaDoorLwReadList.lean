import Derived.Test.YtcbgagohjjdfeaaDoorPlD6
set_option linter.unusedVariables false
namespace Go.Cm
theorem rdList_len (l : List UInt8) : (rdList l).1.length ≤ 300 := by
  unfold rdList rdParts
  split
  · simp
  · split
    · simp
    · split
      · simp; omega
      · simp
theorem splice_all (xs ys : List Int) (h : ys.length = xs.length) : splice xs ys 0 = ys := by
  unfold splice
  simp [h]
theorem ReadList_true (x : PTy [PK.ro Kd.str]) (h : BdA _ x) : ∃ m, S.l_FnExactReadList x = some (true, m) := by
  obtain ⟨s, q⟩ := x
  refine ⟨(), ?_⟩
  show P.l_FnExactReadList 0 (s, ()) = some (true, ())
  unfold P.l_FnExactReadList
  dsimp only
  by_cases hl : s.size ≤ 1000000
  · rw [if_neg (by simp; omega)]
    have e1 : S.s_ReadList (s, ()) = some (rdList s.data.toList, ()) := by
      unfold S.s_ReadList P.s_ReadList S.s_l01Numbers
      dsimp only
      rw [if_pos hl]
      rfl
    have e2 : S.i_ReadList (s, ()) = some (rdList s.data.toList, ()) := by
      unfold S.i_ReadList
      dsimp only
      rw [if_pos hl]
    have hn := rdList_len s.data.toList
    rw [e1, e2]
    simp only [Option.bind_some]
    generalize rdList s.data.toList = y at hn ⊢
    have e3 : S.l_eqInt64S (y.1, y.1, ()) = some (true, ()) := by
      unfold S.l_eqInt64S
      dsimp only
      rw [if_pos (by omega), beq_self_eq_true]
    have e4 : S.l_markInt64S (y.1, 101, ()) = some (101 + (y.1.length : Int), (ramp y.1.length, ())) := by
      unfold S.l_markInt64S
      dsimp only
      rw [if_pos ⟨rfl, by omega⟩]
    have e5 : S.l_heldInt64S (ramp y.1.length, 101, ()) = some (101 + (y.1.length : Int), ()) := by
      unfold S.l_heldInt64S
      dsimp only
      rw [ramp_len, if_pos ⟨rfl, by omega, rfl⟩]
    rw [e3, e4]
    simp only [Option.bind_some]
    rw [splice_all _ _ (ramp_len _), e5]
    simp only [Option.bind_some]
    have e6 : ¬ (101 + (y.1.length : Int) < 0) := by omega
    simp [e6]
  · rw [if_pos (decide_eq_true (by omega))]
end Go.Cm
