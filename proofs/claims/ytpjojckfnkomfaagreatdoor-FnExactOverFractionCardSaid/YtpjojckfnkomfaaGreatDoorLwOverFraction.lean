import Derived.Test.YtpjojckfnkomfaaGreatDoorPlOverFraction
import Derived.Test.YtpjojckfnkomfaaGreatDoorCmZL
set_option linter.unusedVariables false
namespace Go.Cm
theorem two_s (a b : ByteArray) (ha : a.size ≤ 1000000) (hb : b.size ≤ 1000000) : S.s_l01Two (a, (b, ())) = some ((rp B10 (rdRat a.data.toList).1, (rp B10 (rdRat b.data.toList).1, (rdRat a.data.toList).2 && (rdRat b.data.toList).2)), ()) := by
  unfold S.s_l01Two P.s_l01Two S.s_l01Parse
  dsimp only
  rw [if_pos ha, if_pos hb, Option.bind_some, Option.bind_some]
  dsimp only
  cases (rdRat a.data.toList).2 <;> rfl
theorem two_i (a b : ByteArray) (ha : a.size ≤ 1000000) (hb : b.size ≤ 1000000) : S.i_two (a, (b, ())) = some ((rp B32 (rdRat a.data.toList).1, (rp B32 (rdRat b.data.toList).1, (rdRat a.data.toList).2 && (rdRat b.data.toList).2)), ()) := by
  unfold S.i_two P.i_two S.i_readRat
  dsimp only
  rw [if_pos (by omega), if_pos (by omega), Option.bind_some, Option.bind_some]
  dsimp only
  cases (rdRat a.data.toList).2 <;> rfl
theorem read_low {a : ByteArray} (h : (rdRat a.data.toList).2 = true) : low (rdRat a.data.toList).1 ∧ below 200 (rdRat a.data.toList).1 := ⟨rdRat_low _ h, (rdRat_ok _ h).2⟩
theorem give_s (r : Q3) (h : below 10000 r) : S.s_l01Give (rp B10 r, ()) = some (giveN r, ()) := by
  unfold S.s_l01Give
  dsimp only
  rw [if_pos (rok_up (by decide) (below_rok (B := B10) (by decide) h)), rv_rp B10_le]
theorem told_i (r : Q3) (h : below 10000 r) : S.i_told (rp B32 r, ()) = some (giveN r, ()) := by
  unfold S.i_told
  dsimp only
  rw [if_pos (rok_up (by decide) (below_rok (B := B32) (by decide) h)), rv_rp B32_le]
theorem op_s (X Y : Q3) (hx : low X ∧ below 200 X) (hy : low Y ∧ below 200 Y) (h0 : Y.2.1 ≠ 0) : S.s_l01Over (rp B10 X, (rp B10 Y, ())) = some (rp B10 (overQ X Y), ()) := by
  have lx := lowb_rp (B := B10) (N := 100000) (by decide) hx.1 hx.2 (by decide)
  have ly := lowb_rp (B := B10) (N := 100000) (by decide) hy.1 hy.2 (by decide)
  unfold S.s_l01Over
  dsimp only
  rw [rv_rp B10_le, rv_rp B10_le, if_pos ⟨lx, ly, h0⟩]
theorem op_i (X Y : Q3) (hx : low X ∧ below 200 X) (hy : low Y ∧ below 200 Y) (h0 : Y.2.1 ≠ 0) : S.i_rat_over (rp B32 X, (rp B32 Y, ())) = some (rp B32 (overQ X Y), ()) := by
  have lx := lowb_rp (B := B32) (N := 100000) (by decide) hx.1 hx.2 (by decide)
  have ly := lowb_rp (B := B32) (N := 100000) (by decide) hy.1 hy.2 (by decide)
  unfold S.i_rat_over
  dsimp only
  rw [rv_rp B32_le, rv_rp B32_le, if_pos ⟨lx, ly, h0⟩]
theorem s_law (a b : ByteArray) (ha : a.size ≤ 1000000) (hb : b.size ≤ 1000000) : S.s_OverFraction (a, (b, ())) = some (if (rdRat a.data.toList).2 = true ∧ (rdRat b.data.toList).2 = true ∧ (rdRat b.data.toList).1.2.1 ≠ 0 then giveN (overQ (rdRat a.data.toList).1 (rdRat b.data.toList).1) else (bs [], false), ()) := by
  unfold S.s_OverFraction P.s_OverFraction
  dsimp only
  rw [two_s a b ha hb, Option.bind_some]
  dsimp only
  have ga := read_low (a := a)
  have gb := read_low (a := b)
  generalize rdRat a.data.toList = X at *
  generalize rdRat b.data.toList = Y at *
  obtain ⟨X, fx⟩ := X
  obtain ⟨Y, fy⟩ := Y
  dsimp only at *
  cases fx
  · rfl
  · cases fy
    · rfl
    · have hx := ga rfl
      have hy := gb rfl
      have ez : S.s_l01Zero (rp B10 Y, ()) = some (decide (Y.2.1 = 0), ()) := by
        unfold S.s_l01Zero P.s_l01Zero rp
        dsimp only
        congr 2
        rw [Bool.eq_iff_iff, decide_eq_true_iff, beq_iff_eq]
        have := nd_zero_iff B10_le (p := Y.2.1)
        constructor
        · intro h
          exact this.1 (List.eq_nil_of_length_eq_zero (by omega))
        · intro h
          rw [this.2 h]
          rfl
      show Option.bind (S.s_l01Zero (rp B10 Y, ())) (fun y1 => if y1.1 = true then some ((bs [], false), ()) else Option.bind (S.s_l01Over (rp B10 X, (rp B10 Y, ()))) (fun y2 => Option.bind (S.s_l01Give (y2.1, ())) (fun y3 => some (y3.1, ())))) = _
      rw [ez, Option.bind_some]
      dsimp only
      by_cases h0 : Y.2.1 = 0
      · rw [if_pos (decide_eq_true h0), if_neg (fun z => z.2.2 h0)]
      · have hbel : below 10000 (overQ X Y) := below_mono (by decide) (overQ_below hx.2 hy.2)
        rw [if_neg (by simpa using h0), if_pos ⟨rfl, rfl, h0⟩, op_s X Y hx hy h0, Option.bind_some]
        show Option.bind (S.s_l01Give (rp B10 (overQ X Y), ())) (fun y3 => some (y3.1, ())) = _
        rw [give_s _ hbel, Option.bind_some]
theorem i_law (a b : ByteArray) (ha : a.size ≤ 1000000) (hb : b.size ≤ 1000000) : S.i_OverFraction (a, (b, ())) = some (if (rdRat a.data.toList).2 = true ∧ (rdRat b.data.toList).2 = true ∧ (rdRat b.data.toList).1.2.1 ≠ 0 then giveN (overQ (rdRat a.data.toList).1 (rdRat b.data.toList).1) else (bs [], false), ()) := by
  unfold S.i_OverFraction P.i_OverFraction S.i_withTwoover P.i_withTwoover
  dsimp only
  rw [two_i a b ha hb, Option.bind_some]
  unfold S.i_readRat
  dsimp only
  rw [if_pos (by omega), Option.bind_some]
  dsimp only
  have ga := read_low (a := a)
  have gb := read_low (a := b)
  generalize rdRat a.data.toList = X at *
  generalize rdRat b.data.toList = Y at *
  obtain ⟨X, fx⟩ := X
  obtain ⟨Y, fy⟩ := Y
  dsimp only at *
  cases fy
  · have hn : ¬ (fx = true ∧ (false : Bool) = true ∧ Y.2.1 ≠ 0) := fun z => by cases z.2.1
    rw [if_neg hn]
    rfl
  · have hy := gb rfl
    have es : S.i_rat_sign (rp B32 Y, ()) = some (sgnQ Y.1 Y.2.1, ()) := by
      unfold S.i_rat_sign rp
      dsimp only
      rw [if_pos (canon_nd B32_le _), dval_nd B32_le]
    rw [if_neg (show ¬ ((!true) = true) by decide)]
    show Option.bind (S.i_rat_sign (rp B32 Y, ())) (fun y1 => if (y1.1 == 0) = true then some ((bs [], false), ()) else Option.bind (if (!(fx && true)) = true then some ((bs [], false), ()) else Option.bind (S.i_rat_over (rp B32 X, (rp B32 Y, ()))) (fun y2 => Option.bind (S.i_told (y2.1, ())) (fun y3 => some (y3.1, ())))) (fun y4 => some (y4.1, ()))) = _
    rw [es, Option.bind_some]
    dsimp only
    by_cases h0 : Y.2.1 = 0
    · rw [if_pos (by simpa using sgnQ_zero.2 h0), if_neg (fun z => z.2.2 h0)]
    · rw [if_neg (by simpa using fun q => h0 (sgnQ_zero.1 q))]
      cases fx
      · have hn : ¬ ((false : Bool) = true ∧ (true : Bool) = true ∧ Y.2.1 ≠ 0) := fun z => by cases z.1
        rw [if_neg hn]
        rfl
      · have hx := ga rfl
        have hbel : below 10000 (overQ X Y) := below_mono (by decide) (overQ_below hx.2 hy.2)
        rw [if_neg (show ¬ ((!(true && true)) = true) by decide), if_pos (show true = true ∧ true = true ∧ Y.2.1 ≠ 0 from ⟨rfl, rfl, h0⟩), op_i X Y hx hy h0, Option.bind_some]
        show Option.bind (Option.bind (S.i_told (rp B32 (overQ X Y), ())) (fun y3 => some (y3.1, ()))) (fun y4 => some (y4.1, ())) = _
        rw [told_i _ hbel, Option.bind_some, Option.bind_some]
theorem OverFraction_true (x : PTy [PK.ro Kd.str, PK.ro Kd.str]) (h : BdA _ x) (hz : SzA _ x) : ∃ m, S.l_FnExactOverFraction x = some (true, m) := by
  obtain ⟨a, b, q⟩ := x
  obtain ⟨h1, h2, _⟩ := hz
  refine ⟨(), ?_⟩
  show P.l_FnExactOverFraction 0 (a, (b, ())) = some (true, ())
  unfold P.l_FnExactOverFraction
  dsimp only
  have a1 : a.size ≤ reachBytes := h1
  have b1 : b.size ≤ reachBytes := h2
  unfold reachBytes at a1 b1
  rw [wr (by omega) (by omega)]
  by_cases hs : (a.size : Int) + (b.size : Int) > 1000000
  · rw [if_pos (decide_eq_true hs)]
  · rw [if_neg (by simpa using hs), s_law a b (by omega) (by omega), i_law a b (by omega) (by omega), Option.bind_some, Option.bind_some]
    simp
end Go.Cm
