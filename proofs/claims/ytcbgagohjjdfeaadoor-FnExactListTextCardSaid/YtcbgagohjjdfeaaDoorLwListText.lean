import Derived.Test.YtcbgagohjjdfeaaDoorPlD4
set_option linter.unusedVariables false
namespace Go.Cm
theorem room_eqD (n : Nat) : S.l_roomBehind ((n : Int), ()) = some (rb n, ()) := by
  unfold S.l_roomBehind P.l_roomBehind rb
  simp only [beq_iff_eq]
  split
  · rfl
  · split <;> rfl
theorem toI_eq (xs : List Int) (b : Bool) (h : xs.length ≤ 1000000) : S.l_toInt64S (xs, b, ()) = some (tos fillI b xs, ()) := by
  unfold S.l_toInt64S
  rw [if_pos h]
theorem eqI_eq (xs ys : List Int) (h : xs.length ≤ 9223372036854775807) : S.l_eqInt64S (xs, ys, ()) = some ((xs == ys), ()) := by
  unfold S.l_eqInt64S
  rw [if_pos h]
theorem tosI_false (xs : List Int) : tos fillI false xs = (xs ++ List.replicate (rb xs.length).toNat fillI, xs.length) := by simp [tos]
theorem intactI_eq (xs : List Int) (h : xs.length ≤ 1000000) : S.l_intactInt64S (((tos fillI false xs).1, (tos fillI false xs).2), ((tos fillI false xs).1, (tos fillI false xs).2), ()) = some (true, ()) := by
  rw [tosI_false]
  have hr := rb_le xs.length
  unfold S.l_intactInt64S P.l_intactInt64S
  dsimp only
  rw [room_eqD, Option.bind_some, wr (by omega) (by omega)]
  have hl : ((xs ++ List.replicate (rb xs.length).toNat fillI).length : Int) = (xs.length : Int) + rb xs.length := by
    rw [List.length_append, List.length_replicate]
    omega
  have e1 : (0 : Int) ≤ (xs.length : Int) + rb xs.length := by omega
  have e2 : (xs.length : Int) + rb xs.length ≤ (xs.length : Int) + rb xs.length := by omega
  simp only [hl, e1, e2, decide_true, if_true, beq_self_eq_true]
  rw [eqI_eq _ _ (by simp [seen]; omega), beq_self_eq_true, Option.bind_some]
theorem spec_eq (xs : List Int) (h : xs.length ≤ 1000000) : S.s_ListText (xs, ()) = some (if xs.all inB = true ∧ xs.length ≤ 300 then ((⟨(ltx xs).toArray⟩, true), ()) else ((bs [], false), ())) := by
  unfold S.s_ListText P.s_ListText
  dsimp only
  unfold S.s_l01Few
  dsimp only
  rw [if_pos (by omega), Option.bind_some]
  by_cases hc : xs.all inB = true ∧ xs.length ≤ 300
  · rw [if_pos hc, hc.1, if_neg (by simp [hc.2])]
    unfold S.s_l01Text
    dsimp only
    rw [if_pos hc, Option.bind_some]
  · rw [if_neg hc]
    have : (xs.all inB && decide (xs.length ≤ 300)) = false := by
      cases hq : xs.all inB
      · rfl
      · simp
        apply Nat.lt_of_not_le
        intro hl
        exact hc ⟨hq, hl⟩
    simp [this]
theorem impl_eq (xs : List Int) : S.i_ListText (xs, ()) = some (if xs.all inB = true ∧ xs.length ≤ 300 then ((⟨(ltx xs).toArray⟩, true), ()) else ((bs [], false), ())) := rfl
theorem ListText_true (x : PTy [PK.bo (Kd.sl (Kd.int IntKind.i64))]) (h : BdA _ x) : ∃ m, S.l_FnExactListText x = some (true, m) := by
  obtain ⟨xs, q⟩ := x
  refine ⟨(), ?_⟩
  show P.l_FnExactListText 0 (xs, ()) = some (true, ())
  unfold P.l_FnExactListText
  dsimp only
  by_cases hl : xs.length ≤ 1000000
  · rw [if_neg (by simp; omega)]
    rw [toI_eq xs false hl, toI_eq xs true hl]
    simp only [Option.bind_some, tos_take]
    rw [spec_eq xs hl, impl_eq]
    simp only [Option.bind_some]
    rw [intactI_eq xs hl]
    simp
  · rw [if_pos (decide_eq_true (by omega))]
end Go.Cm
