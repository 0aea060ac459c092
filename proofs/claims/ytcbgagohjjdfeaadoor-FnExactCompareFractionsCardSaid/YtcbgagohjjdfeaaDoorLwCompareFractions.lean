import Derived.Test.YtcbgagohjjdfeaaDoorPlCompareFractions
import Derived.Test.YtcbgagohjjdfeaaDoorCmZL
set_option linter.unusedVariables false
namespace Go.Cm
theorem s_comp (a b : ByteArray) (ha : a.size ≤ 1000000) (hb : b.size ≤ 1000000) : S.s_CompareFractions (a, (b, ())) = some (if (rdRat a.data.toList).2 = true ∧ (rdRat b.data.toList).2 = true then (cmpQ (rdRat a.data.toList).1 (rdRat b.data.toList).1, true) else (0, false), ()) := by
  unfold S.s_CompareFractions P.s_CompareFractions S.s_l01Two P.s_l01Two S.s_l01Parse
  dsimp only
  rw [if_pos ha, if_pos hb, Option.bind_some, Option.bind_some]
  dsimp only
  have ga := rdRat_ok a.data.toList
  have gb := rdRat_ok b.data.toList
  generalize rdRat a.data.toList = X at *
  generalize rdRat b.data.toList = Y at *
  obtain ⟨X, fx⟩ := X
  obtain ⟨Y, fy⟩ := Y
  dsimp only at *
  cases fx
  · rfl
  · cases fy
    · rfl
    · obtain ⟨qx, x1, x2⟩ := ga rfl
      obtain ⟨qy, y1, y2⟩ := gb rfl
      have rx := rok_up (M := 100000) (by decide) (rp_rok200 (B := B10) (by decide) x1 x2)
      have ry := rok_up (M := 100000) (by decide) (rp_rok200 (B := B10) (by decide) y1 y2)
      have l1 : S.s_l01Less (rp B10 X, (rp B10 Y, ())) = some (decide (cmpQ X Y < 0), ()) := by
        unfold S.s_l01Less
        dsimp only
        rw [if_pos ⟨rx, ry⟩, rv_rp B10_le, rv_rp B10_le]
      have l2 : S.s_l01Less (rp B10 Y, (rp B10 X, ())) = some (decide (cmpQ Y X < 0), ()) := by
        unfold S.s_l01Less
        dsimp only
        rw [if_pos ⟨ry, rx⟩, rv_rp B10_le, rv_rp B10_le]
      rw [show (if true = true ∧ true = true then (cmpQ X Y, true) else ((0 : Int), false)) = (cmpQ X Y, true) from if_pos ⟨rfl, rfl⟩]
      show (if ((!true) = true) then (some (((0 : Int), false), ())) else Option.bind (S.s_l01Less (rp B10 X, (rp B10 Y, ()))) _) = _
      rw [if_neg (by decide), l1, Option.bind_some]
      dsimp only
      have hr := cmpQ_range X Y
      by_cases h1 : cmpQ X Y < 0
      · rw [if_pos (decide_eq_true h1)]
        congr 2
        have : cmpQ X Y = -1 := by omega
        rw [this]
      · rw [if_neg (by simpa using h1)]
        show Option.bind (S.s_l01Less (rp B10 Y, (rp B10 X, ()))) _ = _
        rw [l2, Option.bind_some, cmpQ_swap X Y]
        dsimp only
        by_cases h2 : -(cmpQ X Y) < 0
        · rw [if_pos (decide_eq_true h2)]
          congr 2
          have : cmpQ X Y = 1 := by omega
          rw [this]
        · rw [if_neg (by simpa using h2)]
          congr 2
          have : cmpQ X Y = 0 := by omega
          rw [this]
theorem i_comp (a b : ByteArray) (ha : a.size ≤ 1000000) (hb : b.size ≤ 1000000) : S.i_CompareFractions (a, (b, ())) = some (if (rdRat a.data.toList).2 = true ∧ (rdRat b.data.toList).2 = true then (cmpQ (rdRat a.data.toList).1 (rdRat b.data.toList).1, true) else (0, false), ()) := by
  unfold S.i_CompareFractions P.i_CompareFractions S.i_two P.i_two S.i_readRat
  dsimp only
  rw [if_pos (by omega), if_pos (by omega), Option.bind_some, Option.bind_some]
  dsimp only
  have ga := rdRat_ok a.data.toList
  have gb := rdRat_ok b.data.toList
  generalize rdRat a.data.toList = X at *
  generalize rdRat b.data.toList = Y at *
  obtain ⟨X, fx⟩ := X
  obtain ⟨Y, fy⟩ := Y
  dsimp only at *
  cases fx
  · rfl
  · cases fy
    · rfl
    · obtain ⟨qx, x1, x2⟩ := ga rfl
      obtain ⟨qy, y1, y2⟩ := gb rfl
      have rx := rok_up (M := 100000) (by decide) (rp_rok200 (B := B32) (by decide) x1 x2)
      have ry := rok_up (M := 100000) (by decide) (rp_rok200 (B := B32) (by decide) y1 y2)
      have l1 : S.i_rat_compared (rp B32 X, (rp B32 Y, ())) = some (cmpQ X Y, ()) := by
        unfold S.i_rat_compared
        dsimp only
        rw [rv_rp B32_le, rv_rp B32_le, if_pos ⟨rx, ry, qx, qy⟩]
      rw [show (if true = true ∧ true = true then (cmpQ X Y, true) else ((0 : Int), false)) = (cmpQ X Y, true) from if_pos ⟨rfl, rfl⟩]
      show (if ((!true) = true) then (some (((0 : Int), false), ())) else Option.bind (S.i_rat_compared (rp B32 X, (rp B32 Y, ()))) _) = _
      rw [if_neg (by decide), l1, Option.bind_some]
theorem CompareFractions_true (x : PTy [PK.ro Kd.str, PK.ro Kd.str]) (h : BdA _ x) (hz : SzA _ x) : ∃ m, S.l_FnExactCompareFractions x = some (true, m) := by
  obtain ⟨a, b, q⟩ := x
  obtain ⟨h1, h2, _⟩ := hz
  refine ⟨(), ?_⟩
  show P.l_FnExactCompareFractions 0 (a, (b, ())) = some (true, ())
  unfold P.l_FnExactCompareFractions
  dsimp only
  have a1 : a.size ≤ reachBytes := h1
  have b1 : b.size ≤ reachBytes := h2
  unfold reachBytes at a1 b1
  rw [wr (by omega) (by omega)]
  by_cases hs : (a.size : Int) + (b.size : Int) > 1000000
  · rw [if_pos (decide_eq_true hs)]
  · rw [if_neg (by simpa using hs), s_comp a b (by omega) (by omega), i_comp a b (by omega) (by omega), Option.bind_some, Option.bind_some]
    simp
end Go.Cm
