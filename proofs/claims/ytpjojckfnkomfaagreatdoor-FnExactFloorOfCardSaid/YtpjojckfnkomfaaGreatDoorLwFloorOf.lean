import Derived.Test.YtpjojckfnkomfaaGreatDoorPlFloorOf
import Derived.Test.YtpjojckfnkomfaaGreatDoorCmZL
set_option linter.unusedVariables false
namespace Go.Cm
theorem read_low {a : ByteArray} (h : (rdRat a.data.toList).2 = true) : low (rdRat a.data.toList).1 ∧ below 200 (rdRat a.data.toList).1 := ⟨rdRat_low _ h, (rdRat_ok _ h).2⟩
theorem give_s (r : Q3) (h : below 10000 r) : S.s_l01Give (rp B10 r, ()) = some (giveN r, ()) := by
  unfold S.s_l01Give
  dsimp only
  rw [if_pos (rok_up (by decide) (below_rok (B := B10) (by decide) h)), rv_rp B10_le]
theorem told_i (r : Q3) (h : below 10000 r) : S.i_told (rp B32 r, ()) = some (giveN r, ()) := by
  unfold S.i_told
  dsimp only
  rw [if_pos (rok_up (by decide) (below_rok (B := B32) (by decide) h)), rv_rp B32_le]
theorem floorQ_below {x : Q3} (h : below 200 x) : below 201 (floorQ x) := by
  have h1 := h.1
  have h2 : x.2.1 / x.2.2 ≤ x.2.1 := Nat.div_le_self _ _
  have h3 : (10 : Nat) ^ 201 = 10 * 10 ^ 200 := by rw [Nat.pow_succ, Nat.mul_comm]
  refine ⟨?_, one_lt_ten (by decide)⟩
  show x.2.1 / x.2.2 + _ < _
  split <;> omega
theorem s_law (a : ByteArray) (ha : a.size ≤ 1000000) : S.s_FloorOf (a, ()) = some (if (rdRat a.data.toList).2 = true then giveN (floorQ (rdRat a.data.toList).1) else (bs [], false), ()) := by
  unfold S.s_FloorOf P.s_FloorOf S.s_l01Parse
  dsimp only
  rw [if_pos (by omega), Option.bind_some]
  dsimp only
  have ga := read_low (a := a)
  generalize rdRat a.data.toList = X at *
  obtain ⟨X, fx⟩ := X
  dsimp only at *
  cases fx
  · rfl
  · have hx := ga rfl
    have lx := lowb_rp (B := B10) (N := 100000) (by decide) hx.1 hx.2 (by decide)
    have e1 : S.s_l01Floor (rp B10 X, ()) = some (rp B10 (floorQ X), ()) := by
      unfold S.s_l01Floor
      dsimp only
      rw [rv_rp B10_le, if_pos lx]
    rw [show (if true = true then giveN (floorQ X) else (bs [], false)) = giveN (floorQ X) from if_pos rfl]
    show Option.bind (S.s_l01Floor (rp B10 X, ())) (fun y1 => Option.bind (S.s_l01Give (y1.1, ())) (fun y2 => some (y2.1, ()))) = _
    rw [e1, Option.bind_some]
    show Option.bind (S.s_l01Give (rp B10 (floorQ X), ())) (fun y2 => some (y2.1, ())) = _
    rw [give_s _ (below_mono (by decide) (floorQ_below hx.2)), Option.bind_some]
theorem i_law (a : ByteArray) (ha : a.size ≤ 1000000) : S.i_FloorOf (a, ()) = some (if (rdRat a.data.toList).2 = true then giveN (floorQ (rdRat a.data.toList).1) else (bs [], false), ()) := by
  unfold S.i_FloorOf P.i_FloorOf S.i_readRat
  dsimp only
  rw [if_pos (by omega), Option.bind_some]
  dsimp only
  have ga := read_low (a := a)
  generalize rdRat a.data.toList = X at *
  obtain ⟨X, fx⟩ := X
  dsimp only at *
  cases fx
  · rfl
  · have hx := ga rfl
    have lx := lowb_rp (B := B32) (N := 100000) (by decide) hx.1 hx.2 (by decide)
    have e1 : S.i_rat_floor (rp B32 X, ()) = some (rp B32 (floorQ X), ()) := by
      unfold S.i_rat_floor
      dsimp only
      rw [rv_rp B32_le, if_pos lx]
    rw [show (if true = true then giveN (floorQ X) else (bs [], false)) = giveN (floorQ X) from if_pos rfl]
    show Option.bind (S.i_rat_floor (rp B32 X, ())) (fun y1 => Option.bind (S.i_told (y1.1, ())) (fun y2 => some (y2.1, ()))) = _
    rw [e1, Option.bind_some]
    show Option.bind (S.i_told (rp B32 (floorQ X), ())) (fun y2 => some (y2.1, ())) = _
    rw [told_i _ (below_mono (by decide) (floorQ_below hx.2)), Option.bind_some]
theorem FloorOf_true (x : PTy [PK.ro Kd.str]) (h : BdA _ x) (hz : SzA _ x) : ∃ m, S.l_FnExactFloorOf x = some (true, m) := by
  obtain ⟨a, q⟩ := x
  refine ⟨(), ?_⟩
  show P.l_FnExactFloorOf 0 (a, ()) = some (true, ())
  unfold P.l_FnExactFloorOf
  dsimp only
  by_cases hs : (a.size : Int) > 1000000
  · rw [if_pos (decide_eq_true hs)]
  · rw [if_neg (by simpa using hs), s_law a (by omega), i_law a (by omega), Option.bind_some, Option.bind_some]
    simp
end Go.Cm
