import Derived.Test.YtlnejaehiangnaaGreatDoorPlLossChance
import Derived.Test.YtlnejaehiangnaaGreatDoorCmZL
set_option linter.unusedVariables false
namespace Go.Cm
theorem inb_i (n a b : Int) : S.i_in (n, (a, (b, ()))) = some (decide (a ≤ n ∧ n ≤ b), ()) := by
  unfold S.i_in P.i_in
  dsimp only
  by_cases h : n ≥ a
  · rw [if_pos (decide_eq_true h)]
    congr 2
    rw [decide_eq_decide]
    omega
  · rw [if_neg (by simpa using h)]
    congr 2
    symm
    exact decide_eq_false (by omega)
theorem inb_s (n a b : Int) : S.s_l00In (n, (a, (b, ()))) = some (decide (a ≤ n ∧ n ≤ b), ()) := by
  unfold S.s_l00In P.s_l00In
  dsimp only
  by_cases h : n ≥ a
  · rw [if_pos (decide_eq_true h)]
    congr 2
    rw [decide_eq_decide]
    omega
  · rw [if_neg (by simpa using h)]
    congr 2
    symm
    exact decide_eq_false (by omega)
def lossT (s : ByteArray) (n : Int) : ByteArray × Bool := if ((posR s).2 && decide (0 ≤ n ∧ n ≤ 20)) = true then giveN (lossQ (posR s).1 n.toNat) else (bs [], false)
theorem s_law (a : ByteArray) (n : Int) (ha : a.size ≤ 1000000) : S.s_LossChance (a, (n, ())) = some (lossT a n, ()) := by
  unfold S.s_LossChance P.s_LossChance S.s_l02Rate lossT
  dsimp only
  rw [if_pos ha, Option.bind_some]
  dsimp only
  have g := posR_ok (s := a)
  cases hf : (posR a).2
  · rfl
  obtain ⟨gl, gb, gp⟩ := g hf
  generalize (posR a).1 = r at *
  rw [if_neg (by decide), inb_s, Option.bind_some]
  dsimp only
  by_cases hc : 0 ≤ n ∧ n ≤ 20
  · rw [decide_eq_true hc, if_neg (by decide), if_pos (by decide)]
    have e : S.s_l02Loss (rp B10 r, (n, ())) = some (rp B10 (lossQ r n.toNat), ()) := by
      unfold S.s_l02Loss
      dsimp only
      rw [if_pos ⟨⟨r, rfl, gl, gb, gp⟩, hc.1, hc.2⟩, rv_rp B10_le]
    show Option.bind (S.s_l02Loss (rp B10 r, (n, ()))) _ = _
    rw [e, Option.bind_some]
    show Option.bind (S.s_l02Give (rp B10 (lossQ r n.toNat), ())) _ = _
    rw [rs_give2 (lossQ_below gl gp gb n.toNat (by omega)) (by omega), Option.bind_some]
  · rw [decide_eq_false hc]
    rfl
theorem i_law (a : ByteArray) (n : Int) (ha : a.size ≤ 1000000) : S.i_LossChance (a, (n, ())) = some (lossT a n, ()) := by
  unfold S.i_LossChance P.i_LossChance S.i_positive lossT
  dsimp only
  rw [if_pos ha, Option.bind_some]
  dsimp only
  have g := posR_ok (s := a)
  cases hf : (posR a).2
  · rfl
  obtain ⟨gl, gb, gp⟩ := g hf
  generalize (posR a).1 = r at *
  rw [if_neg (by decide), inb_i, Option.bind_some]
  dsimp only
  by_cases hc : 0 ≤ n ∧ n ≤ 20
  · rw [decide_eq_true hc, if_neg (by decide), if_pos (by decide)]
    obtain ⟨M, rfl⟩ : ∃ M : Nat, n = (M : Int) := ⟨n.toNat, by omega⟩
    have e : S.i_losses (rp B32 r, ((M : Int), ())) = some ((List.range (M + 1)).map (fun i => rp B32 (lossQ r i)), ()) := by
      unfold S.i_losses
      dsimp only
      rw [if_pos ⟨⟨r, rfl, gl, gb, gp⟩, hc.1, hc.2⟩, rv_rp B32_le, Int.toNat_natCast]
    show Option.bind (S.i_losses (rp B32 r, ((M : Int), ()))) _ = _
    rw [e, Option.bind_some]
    dsimp only
    rw [if_pos (decide_eq_true hc.1), if_pos (decide_eq_true (by rw [List.length_map, List.length_range]; omega)), getD_cast _ M _ (by rw [List.length_map, List.length_range]; omega), List.getElem_map, List.getElem_range, Int.toNat_natCast]
    show Option.bind (S.i_told (rp B32 (lossQ r M), ())) _ = _
    rw [ri_told (lossQ_below gl gp gb M (by omega)) (by omega), Option.bind_some]
  · rw [decide_eq_false hc]
    rfl
theorem LossChance_true (x : PTy [PK.ro Kd.str, PK.ro (Kd.int IntKind.i64)]) (h : BdA _ x) (hz : SzA _ x) : ∃ m, S.l_FnExactLossChance x = some (true, m) := by
  obtain ⟨a, n, q⟩ := x
  refine ⟨(), ?_⟩
  show P.l_FnExactLossChance 0 (a, (n, ())) = some (true, ())
  unfold P.l_FnExactLossChance
  dsimp only
  by_cases hs : (a.size : Int) > 1000000
  · rw [if_pos (decide_eq_true hs)]
  · rw [if_neg (by simpa using hs), s_law a n (by omega), i_law a n (by omega), Option.bind_some, Option.bind_some]
    simp
end Go.Cm
