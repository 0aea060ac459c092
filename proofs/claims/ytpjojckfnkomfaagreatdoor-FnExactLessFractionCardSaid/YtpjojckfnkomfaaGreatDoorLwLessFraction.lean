import Derived.Test.YtpjojckfnkomfaaGreatDoorPlLessFraction
import Derived.Test.YtpjojckfnkomfaaGreatDoorCmZL
set_option linter.unusedVariables false
namespace Go.Cm
theorem two_s (a b : ByteArray) (ha : a.size ≤ 1000000) (hb : b.size ≤ 1000000) : S.s_l01Two (a, (b, ())) = some ((rp B10 (rdRat a.data.toList).1, (rp B10 (rdRat b.data.toList).1, (rdRat a.data.toList).2 && (rdRat b.data.toList).2)), ()) := by
  unfold S.s_l01Two P.s_l01Two S.s_l01Parse
  dsimp only
  rw [if_pos ha, if_pos hb, Option.bind_some, Option.bind_some]
  dsimp only
  cases (rdRat a.data.toList).2 <;> rfl
theorem two_i (a b : ByteArray) (ha : a.size ≤ 1000000) (hb : b.size ≤ 1000000) : S.i_two (a, (b, ())) = some ((rp B32 (rdRat a.data.toList).1, (rp B32 (rdRat b.data.toList).1, (rdRat a.data.toList).2 && (rdRat b.data.toList).2)), ()) := by
  unfold S.i_two P.i_two S.i_readRat
  dsimp only
  rw [if_pos (by omega), if_pos (by omega), Option.bind_some, Option.bind_some]
  dsimp only
  cases (rdRat a.data.toList).2 <;> rfl
theorem read_low {a : ByteArray} (h : (rdRat a.data.toList).2 = true) : low (rdRat a.data.toList).1 ∧ below 200 (rdRat a.data.toList).1 := ⟨rdRat_low _ h, (rdRat_ok _ h).2⟩
theorem give_s (r : Q3) (h : below 10000 r) : S.s_l01Give (rp B10 r, ()) = some (giveN r, ()) := by
  unfold S.s_l01Give
  dsimp only
  rw [if_pos (rok_up (by decide) (below_rok (B := B10) (by decide) h)), rv_rp B10_le]
theorem told_i (r : Q3) (h : below 10000 r) : S.i_told (rp B32 r, ()) = some (giveN r, ()) := by
  unfold S.i_told
  dsimp only
  rw [if_pos (rok_up (by decide) (below_rok (B := B32) (by decide) h)), rv_rp B32_le]
theorem op_s (X Y : Q3) (hx : low X ∧ below 200 X) (hy : low Y ∧ below 200 Y) : S.s_l01Minus (rp B10 X, (rp B10 Y, ())) = some (rp B10 (addQ X (oppQ Y)), ()) := by
  have lx := lowb_rp (B := B10) (N := 100000) (by decide) hx.1 hx.2 (by decide)
  have ly := lowb_rp (B := B10) (N := 100000) (by decide) hy.1 hy.2 (by decide)
  unfold S.s_l01Minus
  dsimp only
  rw [rv_rp B10_le, rv_rp B10_le, if_pos ⟨lx, ly⟩]
theorem op_i (X Y : Q3) (hx : low X ∧ below 200 X) (hy : low Y ∧ below 200 Y) : S.i_rat_sub (rp B32 X, (rp B32 Y, ())) = some (rp B32 (addQ X (oppQ Y)), ()) := by
  have lx := lowb_rp (B := B32) (N := 100000) (by decide) hx.1 hx.2 (by decide)
  have ly := lowb_rp (B := B32) (N := 100000) (by decide) hy.1 hy.2 (by decide)
  unfold S.i_rat_sub
  dsimp only
  rw [rv_rp B32_le, rv_rp B32_le, if_pos ⟨lx, ly⟩]
theorem s_law (a b : ByteArray) (ha : a.size ≤ 1000000) (hb : b.size ≤ 1000000) : S.s_LessFraction (a, (b, ())) = some (if (rdRat a.data.toList).2 = true ∧ (rdRat b.data.toList).2 = true then giveN (addQ (rdRat a.data.toList).1 (oppQ (rdRat b.data.toList).1)) else (bs [], false), ()) := by
  unfold S.s_LessFraction P.s_LessFraction
  dsimp only
  rw [two_s a b ha hb, Option.bind_some]
  dsimp only
  have ga := read_low (a := a)
  have gb := read_low (a := b)
  generalize rdRat a.data.toList = X at *
  generalize rdRat b.data.toList = Y at *
  obtain ⟨X, fx⟩ := X
  obtain ⟨Y, fy⟩ := Y
  dsimp only at *
  cases fx
  · rfl
  · cases fy
    · rfl
    · have hx := ga rfl
      have hy := gb rfl
      have hbel : below 10000 (addQ X (oppQ Y)) := below_mono (by decide) (addQ_below hx.2 (oppQ_below hy.2))
      rw [show (if true = true ∧ true = true then giveN (addQ X (oppQ Y)) else (bs [], false)) = giveN (addQ X (oppQ Y)) from if_pos ⟨rfl, rfl⟩]
      show Option.bind (S.s_l01Minus (rp B10 X, (rp B10 Y, ()))) (fun y1 => Option.bind (S.s_l01Give (y1.1, ())) (fun y2 => some (y2.1, ()))) = _
      rw [op_s X Y hx hy, Option.bind_some]
      show Option.bind (S.s_l01Give (rp B10 (addQ X (oppQ Y)), ())) (fun y2 => some (y2.1, ())) = _
      rw [give_s _ hbel, Option.bind_some]
theorem i_law (a b : ByteArray) (ha : a.size ≤ 1000000) (hb : b.size ≤ 1000000) : S.i_LessFraction (a, (b, ())) = some (if (rdRat a.data.toList).2 = true ∧ (rdRat b.data.toList).2 = true then giveN (addQ (rdRat a.data.toList).1 (oppQ (rdRat b.data.toList).1)) else (bs [], false), ()) := by
  unfold S.i_LessFraction P.i_LessFraction S.i_withTwosub P.i_withTwosub
  dsimp only
  rw [two_i a b ha hb, Option.bind_some]
  dsimp only
  have ga := read_low (a := a)
  have gb := read_low (a := b)
  generalize rdRat a.data.toList = X at *
  generalize rdRat b.data.toList = Y at *
  obtain ⟨X, fx⟩ := X
  obtain ⟨Y, fy⟩ := Y
  dsimp only at *
  cases fx
  · rfl
  · cases fy
    · rfl
    · have hx := ga rfl
      have hy := gb rfl
      have hbel : below 10000 (addQ X (oppQ Y)) := below_mono (by decide) (addQ_below hx.2 (oppQ_below hy.2))
      rw [show (if true = true ∧ true = true then giveN (addQ X (oppQ Y)) else (bs [], false)) = giveN (addQ X (oppQ Y)) from if_pos ⟨rfl, rfl⟩]
      show Option.bind (Option.bind (S.i_rat_sub (rp B32 X, (rp B32 Y, ()))) (fun y1 => Option.bind (S.i_told (y1.1, ())) (fun y2 => some (y2.1, ())))) (fun y0 => some (y0.1, ())) = _
      rw [op_i X Y hx hy, Option.bind_some]
      show Option.bind (Option.bind (S.i_told (rp B32 (addQ X (oppQ Y)), ())) (fun y2 => some (y2.1, ()))) (fun y0 => some (y0.1, ())) = _
      rw [told_i _ hbel, Option.bind_some, Option.bind_some]
theorem LessFraction_true (x : PTy [PK.ro Kd.str, PK.ro Kd.str]) (h : BdA _ x) (hz : SzA _ x) : ∃ m, S.l_FnExactLessFraction x = some (true, m) := by
  obtain ⟨a, b, q⟩ := x
  obtain ⟨h1, h2, _⟩ := hz
  refine ⟨(), ?_⟩
  show P.l_FnExactLessFraction 0 (a, (b, ())) = some (true, ())
  unfold P.l_FnExactLessFraction
  dsimp only
  have a1 : a.size ≤ reachBytes := h1
  have b1 : b.size ≤ reachBytes := h2
  unfold reachBytes at a1 b1
  rw [wr (by omega) (by omega)]
  by_cases hs : (a.size : Int) + (b.size : Int) > 1000000
  · rw [if_pos (decide_eq_true hs)]
  · rw [if_neg (by simpa using hs), s_law a b (by omega) (by omega), i_law a b (by omega) (by omega), Option.bind_some, Option.bind_some]
    simp
end Go.Cm
