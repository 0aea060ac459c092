import Derived.Test.YtpjojckfnkomfaaGreatDoorPlPowerOf
import Derived.Test.YtpjojckfnkomfaaGreatDoorCmZL
set_option linter.unusedVariables false
namespace Go.Cm
theorem i_law (a : ByteArray) (n : Int) (ha : a.size ≤ 1000000) : S.i_PowerOf (a, (n, ())) = some (if (rdRat a.data.toList).2 = true ∧ 0 ≤ n ∧ n ≤ 100 then giveN (powQ (rdRat a.data.toList).1 n.toNat) else (bs [], false), ()) := by
  unfold S.i_PowerOf P.i_PowerOf S.i_readRat
  dsimp only
  rw [if_pos (by omega), Option.bind_some]
  dsimp only
  have ga : (rdRat a.data.toList).2 = true → low (rdRat a.data.toList).1 ∧ below 200 (rdRat a.data.toList).1 := fun h => ⟨rdRat_low _ h, (rdRat_ok _ h).2⟩
  generalize rdRat a.data.toList = X at *
  obtain ⟨X, fx⟩ := X
  dsimp only at *
  cases fx
  · have hn : ¬ ((false : Bool) = true ∧ 0 ≤ n ∧ n ≤ 100) := fun z => by cases z.1
    rw [if_neg hn]
    rfl
  · obtain ⟨lx, bx⟩ := ga rfl
    rw [if_neg (show ¬ ((!true) = true) by decide)]
    have hin : S.i_in (n, (0, (100, ()))) = some (decide (0 ≤ n ∧ n ≤ 100), ()) := by
      unfold S.i_in P.i_in
      dsimp only
      by_cases h : n ≥ 0
      · by_cases h' : n ≤ 100 <;> simp [h, h']
      · have h2 : ¬ (0 ≤ n) := by omega
        rw [if_neg (by simpa using h), decide_eq_false (fun z => h2 z.1)]
    rw [hin, Option.bind_some]
    dsimp only
    by_cases hc : 0 ≤ n ∧ n ≤ 100
    · have hx := lowb_rp (B := B32) (N := 100000) (by decide) lx bx (by decide)
      have hp : S.i_rat_power (rp B32 X, (n, ())) = some (rp B32 (powQ X n.toNat), ()) := by
        unfold S.i_rat_power
        dsimp only
        rw [rv_rp B32_le, if_pos ⟨hx, bx.1, bx.2, hc.1, hc.2⟩]
      have hb := powQ_below X 200 n.toNat bx
      have ht : S.i_told (rp B32 (powQ X n.toNat), ()) = some (giveN (powQ X n.toNat), ()) := by
        unfold S.i_told
        dsimp only
        rw [if_pos (rok_up (by omega) (below_rok (B := B32) (by decide) hb)), rv_rp B32_le]
      rw [decide_eq_true hc, if_neg (show ¬ ((!true) = true) by decide), if_pos (show true = true ∧ 0 ≤ n ∧ n ≤ 100 from ⟨rfl, hc⟩)]
      show Option.bind (S.i_rat_power (rp B32 X, (n, ()))) (fun y2 => Option.bind (S.i_told (y2.1, ())) (fun y3 => some (y3.1, ()))) = _
      rw [hp, Option.bind_some, ht, Option.bind_some]
    · have hn : ¬ ((true : Bool) = true ∧ 0 ≤ n ∧ n ≤ 100) := fun z => hc z.2
      rw [decide_eq_false hc, if_pos (show (!false) = true by rfl), if_neg hn]
theorem PowerOf_true (x : PTy [PK.ro Kd.str, PK.ro (Kd.int IntKind.i64)]) (h : BdA _ x) (hz : SzA _ x) : ∃ m, S.l_FnExactPowerOf x = some (true, m) := by
  obtain ⟨a, n, q⟩ := x
  refine ⟨(), ?_⟩
  show P.l_FnExactPowerOf 0 (a, (n, ())) = some (true, ())
  unfold P.l_FnExactPowerOf
  dsimp only
  by_cases hs : (a.size : Int) > 1000000
  · rw [if_pos (decide_eq_true hs)]
  · have e1 : S.s_PowerOf (a, (n, ())) = some (if (rdRat a.data.toList).2 = true ∧ 0 ≤ n ∧ n ≤ 100 then giveN (powQ (rdRat a.data.toList).1 n.toNat) else (bs [], false), ()) := by
      unfold S.s_PowerOf
      exact if_pos (by dsimp only; omega)
    rw [if_neg (by simpa using hs), e1, i_law a n (by omega), Option.bind_some, Option.bind_some]
    simp
end Go.Cm
