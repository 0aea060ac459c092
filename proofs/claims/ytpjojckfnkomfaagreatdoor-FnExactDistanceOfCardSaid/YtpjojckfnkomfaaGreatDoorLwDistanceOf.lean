import Derived.Test.YtpjojckfnkomfaaGreatDoorPlDistanceOf
import Derived.Test.YtpjojckfnkomfaaGreatDoorCmZL
set_option linter.unusedVariables false
namespace Go.Cm
theorem okTexts_of {xs : List ByteArray} (h : Bd (.sl .str) xs) : okTexts xs := by
  obtain ⟨h1, h2⟩ := h
  have e : maxLen = 9223372036854775807 := rfl
  exact ⟨by rw [← e]; exact h1, fun x hx => by rw [← e]; exact h2 x hx⟩
theorem szGo_okT : ∀ (xs : List ByteArray) (l : Int), l ≤ 1000000 → 0 ≤ szGo xs l → okT xs = true
  | [], _, _, _ => rfl
  | x :: xs, l, h0, h => by
    unfold szGo at h
    split at h
    · omega
    · have := szGo_okT xs (l - (x.size : Int)) (by omega) h
      unfold okT at *
      rw [List.all_cons, this, Bool.and_true]
      have h1 : 0 ≤ l - (x.size : Int) := by omega
      exact decide_eq_true (by omega)
theorem szS_okT {xs : List ByteArray} {l : Int} (hl : l ≤ 1000000) (h : 0 ≤ szS xs l) : okT xs = true ∧ (xs.length : Int) ≤ l ∧ szS xs l ≤ l := by
  unfold szS at *
  split at h
  · omega
  · rename_i hn
    rw [if_neg hn]
    have hs := szGo_le xs (l - (xs.length : Int)) (by omega)
    exact ⟨szGo_okT xs _ (by omega) h, by omega, by omega⟩
theorem sz_eq {xs : List ByteArray} {l : Int} (h : okTexts xs) (h0 : 0 ≤ l) (h1 : l ≤ 1000000) : S.l_szStringS (xs, (l, ())) = some (szS xs l, ()) := by
  unfold S.l_szStringS
  exact if_pos ⟨h, h0, h1⟩
theorem tos_take' {xs : List ByteArray} (b : Bool) : List.take (tos spare b xs).2 (tos spare b xs).1 = xs := tos_take spare b xs
theorem s_law (xs ys : List ByteArray) (hx : okT xs = true) (hy : okT ys = true) : S.s_DistanceOf (xs, (ys, ())) = some (if (rdAll xs).2 = true ∧ (rdAll ys).2 = true ∧ (rdAll xs).1.length = (rdAll ys).1.length then giveN (distQ (rdAll xs).1 (rdAll ys).1) else (bs [], false), ()) := by
  unfold S.s_DistanceOf P.s_DistanceOf S.s_l01List
  dsimp only
  rw [if_pos hx, if_pos hy, Option.bind_some, Option.bind_some]
  dsimp only
  have ga := rdAll_ok (ls := xs)
  have gb := rdAll_ok (ls := ys)
  generalize rdAll xs = X at *
  generalize rdAll ys = Y at *
  obtain ⟨X, fx⟩ := X
  obtain ⟨Y, fy⟩ := Y
  dsimp only at *
  cases fx
  · rw [if_neg (show ¬ ((false : Bool) = true ∧ fy = true ∧ X.length = Y.length) from fun z => by cases z.1)]
    rfl
  cases fy
  · rw [if_neg (show ¬ ((true : Bool) = true ∧ (false : Bool) = true ∧ X.length = Y.length) from fun z => by cases z.2.1)]
    rfl
  obtain ⟨a1, a2, a3⟩ := ga rfl
  obtain ⟨b1, b2, b3⟩ := gb rfl
  rw [if_neg (show ¬ ((!true) = true) by decide), if_neg (show ¬ ((!true) = true) by decide), List.length_map, List.length_map]
  by_cases hl : X.length = Y.length
  · have ed : S.s_l01Distance (X.map (rp B10), (Y.map (rp B10), ())) = some (rp B10 (distQ X Y), ()) := by
      unfold S.s_l01Distance
      dsimp only
      rw [if_pos ⟨X, Y, rfl, rfl, hl, by omega, a3, b3⟩, map_rv B10_le, map_rv B10_le]
    have hr : rok B10 100000 (rp B10 (distQ X Y)) = true := distQ_rok (by decide) (dfs_good a3 b3 hl (by omega))
    have eg : S.s_l01Give (rp B10 (distQ X Y), ()) = some (giveN (distQ X Y), ()) := by
      unfold S.s_l01Give
      dsimp only
      rw [if_pos hr, rv_rp B10_le]
    rw [if_neg (by simp; omega), ed, Option.bind_some, if_pos ⟨rfl, rfl, hl⟩]
    show Option.bind (S.s_l01Give (rp B10 (distQ X Y), ())) _ = _
    rw [eg, Option.bind_some]
  · rw [if_pos (by simp; omega), if_neg (fun z => hl z.2.2)]
theorem i_law (xs ys : List ByteArray) (hx : okT xs = true) (hy : okT ys = true) : S.i_DistanceOf (xs, (ys, ())) = some (if (rdAll xs).2 = true ∧ (rdAll ys).2 = true ∧ (rdAll xs).1.length = (rdAll ys).1.length then giveN (distQ (rdAll xs).1 (rdAll ys).1) else (bs [], false), ()) := by
  unfold S.i_DistanceOf P.i_DistanceOf S.i_rats
  dsimp only
  rw [if_pos hx, if_pos hy, Option.bind_some, Option.bind_some]
  dsimp only
  have ga := rdAll_ok (ls := xs)
  have gb := rdAll_ok (ls := ys)
  generalize rdAll xs = X at *
  generalize rdAll ys = Y at *
  obtain ⟨X, fx⟩ := X
  obtain ⟨Y, fy⟩ := Y
  dsimp only at *
  cases fx
  · rw [if_neg (show ¬ ((false : Bool) = true ∧ fy = true ∧ X.length = Y.length) from fun z => by cases z.1)]
    rfl
  cases fy
  · rw [if_neg (show ¬ ((true : Bool) = true ∧ (false : Bool) = true ∧ X.length = Y.length) from fun z => by cases z.2.1)]
    rfl
  obtain ⟨a1, a2, a3⟩ := ga rfl
  obtain ⟨b1, b2, b3⟩ := gb rfl
  rw [if_neg (show ¬ ((!true) = true) by decide), if_neg (show ¬ ((!true) = true) by decide), List.length_map, List.length_map]
  by_cases hl : X.length = Y.length
  · have ed : S.i_distance (X.map (rp B32), (Y.map (rp B32), ())) = some (rp B32 (distQ X Y), ()) := by
      unfold S.i_distance
      dsimp only
      rw [if_pos ⟨X, Y, rfl, rfl, hl, by omega, a3, b3⟩, map_rv B32_le, map_rv B32_le]
    have hr : rok B32 100000 (rp B32 (distQ X Y)) = true := distQ_rok (by decide) (dfs_good a3 b3 hl (by omega))
    have eg : S.i_told (rp B32 (distQ X Y), ()) = some (giveN (distQ X Y), ()) := by
      unfold S.i_told
      dsimp only
      rw [if_pos hr, rv_rp B32_le]
    rw [if_neg (by simp; omega), ed, Option.bind_some, if_pos ⟨rfl, rfl, hl⟩]
    show Option.bind (S.i_told (rp B32 (distQ X Y), ())) _ = _
    rw [eg, Option.bind_some]
  · rw [if_pos (by simp; omega), if_neg (fun z => hl z.2.2)]
theorem DistanceOf_true (x : PTy [PK.bo (Kd.sl Kd.str), PK.bo (Kd.sl Kd.str)]) (h : BdA _ x) (hz : SzA _ x) : ∃ m, S.l_FnExactDistanceOf x = some (true, m) := by
  obtain ⟨xs, ys, q⟩ := x
  have ht := okTexts_of h.1
  have ht2 := okTexts_of h.2.1
  refine ⟨(), ?_⟩
  show P.l_FnExactDistanceOf 0 (xs, (ys, ())) = some (true, ())
  unfold P.l_FnExactDistanceOf
  dsimp only
  rw [sz_eq ht (by decide) (by decide), Option.bind_some]
  by_cases hn : szS xs 1000000 < 0
  · rw [if_pos (decide_eq_true hn)]
  · rw [if_neg (by simpa using hn)]
    obtain ⟨hk, hl, hm⟩ := szS_okT (l := 1000000) (by decide) (by omega : 0 ≤ szS xs 1000000)
    dsimp only
    rw [sz_eq ht2 (by omega) hm, Option.bind_some]
    by_cases hn2 : szS ys (szS xs 1000000) < 0
    · rw [if_pos (decide_eq_true hn2)]
    · rw [if_neg (by simpa using hn2)]
      obtain ⟨hk2, hl2, _⟩ := szS_okT hm (by omega : 0 ≤ szS ys (szS xs 1000000))
      rw [toStringS_eq xs false (by omega), toStringS_eq xs true (by omega), toStringS_eq ys false (by omega), toStringS_eq ys true (by omega)]
      simp only [Option.bind_some, tos_take']
      rw [s_law xs ys hk hk2, i_law xs ys hk hk2]
      simp only [Option.bind_some]
      rw [intactStringS_eq xs (by omega), intactStringS_eq ys (by omega)]
      simp
end Go.Cm
