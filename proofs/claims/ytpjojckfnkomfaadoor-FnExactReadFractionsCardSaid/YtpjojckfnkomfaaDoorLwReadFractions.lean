import Derived.Test.YtpjojckfnkomfaaDoorPlReadFractions
import Derived.Test.YtpjojckfnkomfaaDoorCmZL
set_option linter.unusedVariables false
namespace Go.Cm
def rdT (s : ByteArray) : List ByteArray × Bool := if (rdAll (partsOf s)).2 = true then (partsOf s, true) else ([], false)
theorem s_law (s : ByteArray) (h : s.size ≤ 1000000) : S.s_ReadFractions (s, ()) = some (rdT s, ()) := by
  unfold S.s_ReadFractions P.s_ReadFractions S.s_l01Read
  dsimp only
  rw [if_pos h, Option.bind_some]
  rfl
theorem i_law (s : ByteArray) (h : s.size ≤ 1000000) : S.i_ReadFractions (s, ()) = some (rdT s, ()) := by
  obtain ⟨h1, h2⟩ := partsOf_ok s h
  unfold S.i_ReadFractions P.i_ReadFractions S.i_parted S.i_rats rdT
  dsimp only
  rw [if_pos h, Option.bind_some]
  dsimp only
  rw [if_pos h1, Option.bind_some]
  dsimp only
  cases (rdAll (partsOf s)).2 <;> rfl
theorem rdT_len (s : ByteArray) (h : s.size ≤ 1000000) : (rdT s).1.length ≤ 1000001 := by
  obtain ⟨h1, h2⟩ := partsOf_ok s h
  unfold rdT
  split
  · exact h2
  · exact Nat.zero_le _
theorem splice_own {α : Type} (xs ys : List α) (h : ys.length = xs.length) : splice xs ys 0 = ys := by
  unfold splice
  simp [h]
theorem ReadFractions_true (x : PTy [PK.ro Kd.str]) (h : BdA _ x) (hz : SzA _ x) : ∃ m, S.l_FnExactReadFractions x = some (true, m) := by
  obtain ⟨s, q⟩ := x
  refine ⟨(), ?_⟩
  show P.l_FnExactReadFractions 0 (s, ()) = some (true, ())
  unfold P.l_FnExactReadFractions
  dsimp only
  by_cases hl : s.size ≤ 1000000
  · rw [if_neg (by simp; omega)]
    have hn := rdT_len s hl
    rw [s_law s hl, i_law s hl]
    simp only [Option.bind_some]
    generalize rdT s = y at hn ⊢
    have e3 : S.l_eqStringS (y.1, y.1, ()) = some (true, ()) := by
      unfold S.l_eqStringS
      dsimp only
      rw [if_pos (by omega), eqTexts_refl]
    have e4 : S.l_markStringS (y.1, 101, ()) = some (101 + (y.1.length : Int), (marks 101 y.1.length, ())) := by
      unfold S.l_markStringS
      dsimp only
      rw [if_pos ⟨by omega, by omega, by omega⟩]
    have e5 : S.l_heldStringS (marks 101 y.1.length, 101, ()) = some (101 + (y.1.length : Int), ()) := by
      unfold S.l_heldStringS
      dsimp only
      rw [marks_len, if_pos ⟨by omega, by omega, by omega, rfl⟩]
    rw [e3, e4]
    simp only [Option.bind_some]
    rw [splice_own _ _ (marks_len _ _), e5]
    simp only [Option.bind_some]
    have e6 : ¬ (101 + (y.1.length : Int) < 0) := by omega
    simp [e6]
  · rw [if_pos (decide_eq_true (by omega))]
end Go.Cm
