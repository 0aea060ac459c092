import Derived.Test.YtlnejaehiangnaaGreatDoorPlTimeBetween
import Derived.Test.YtlnejaehiangnaaGreatDoorCmZL
set_option linter.unusedVariables false
namespace Go.Cm
theorem inb_i (n a b : Int) : S.i_in (n, (a, (b, ()))) = some (decide (a ≤ n ∧ n ≤ b), ()) := by
  unfold S.i_in P.i_in
  dsimp only
  by_cases h : n ≥ a
  · rw [if_pos (decide_eq_true h)]
    congr 2
    rw [decide_eq_decide]
    omega
  · rw [if_neg (by simpa using h)]
    congr 2
    symm
    exact decide_eq_false (by omega)
theorem okTexts_of {xs : List ByteArray} (h : Bd (.sl .str) xs) : okTexts xs := by
  obtain ⟨h1, h2⟩ := h
  have e : maxLen = 9223372036854775807 := rfl
  exact ⟨by rw [← e]; exact h1, fun x hx => by rw [← e]; exact h2 x hx⟩
theorem szGo_okT : ∀ (xs : List ByteArray) (l : Int), l ≤ 1000000 → 0 ≤ szGo xs l → okT xs = true
  | [], _, _, _ => rfl
  | x :: xs, l, h0, h => by
    unfold szGo at h
    split at h
    · omega
    · have := szGo_okT xs (l - (x.size : Int)) (by omega) h
      unfold okT at *
      rw [List.all_cons, this, Bool.and_true]
      have h1 : 0 ≤ l - (x.size : Int) := by omega
      exact decide_eq_true (by omega)
theorem szS_okT {xs : List ByteArray} {l : Int} (hl : l ≤ 1000000) (h : 0 ≤ szS xs l) : okT xs = true ∧ (xs.length : Int) ≤ l ∧ szS xs l ≤ l := by
  unfold szS at *
  split at h
  · omega
  · rename_i hn
    rw [if_neg hn]
    have hs := szGo_le xs (l - (xs.length : Int)) (by omega)
    exact ⟨szGo_okT xs _ (by omega) h, by omega, by omega⟩
theorem szStringS_eq (xs : List ByteArray) (l : Int) (h : okTexts xs) (h0 : 0 ≤ l) (h1 : l ≤ 1000000) : S.l_szStringS (xs, l, ()) = some (szS xs l, ()) := by
  unfold S.l_szStringS
  rw [if_pos ⟨h, h0, h1⟩]
theorem szLine_eq (u d : List ByteArray) (l : Int) (hu : okTexts u) (hd : okTexts d) (h0 : 0 ≤ l) (h1 : l ≤ 1000000) : ∃ r, S.l_szLine ((u, d), l, ()) = some (r, ()) ∧ r ≤ l ∧ (0 ≤ r → (okT u = true ∧ okT d = true) ∧ u.length ≤ 1000000 ∧ d.length ≤ 1000000) := by
  unfold S.l_szLine P.l_szLine
  dsimp only
  rw [szStringS_eq u l hu h0 h1, Option.bind_some]
  have a := szS_le u l h0
  by_cases hn : szS u l < 0
  · refine ⟨-1, by simp [hn], by omega, by omega⟩
  · obtain ⟨u1, u2, u3⟩ := szS_okT h1 (show 0 ≤ szS u l by omega)
    simp only [hn, decide_false, Bool.false_eq_true, if_false]
    rw [szStringS_eq d _ hd (by omega) (by omega), Option.bind_some]
    have b := szS_le d (szS u l) (by omega)
    by_cases hm : szS d (szS u l) < 0
    · refine ⟨-1, by simp [hm], by omega, by omega⟩
    · obtain ⟨d1, d2, d3⟩ := szS_okT (l := szS u l) (by omega) (show 0 ≤ szS d (szS u l) by omega)
      exact ⟨szS d (szS u l), by simp [hm], by omega, fun _ => ⟨⟨u1, d1⟩, by omega, by omega⟩⟩
theorem tos_take' {xs : List ByteArray} (b : Bool) : List.take (tos spare b xs).2 (tos spare b xs).1 = xs := tos_take spare b xs
theorem intactLine_eq (u d : List ByteArray) (hu : u.length ≤ 1000000) (hd : d.length ≤ 1000000) : S.l_intactLine ((((tos spare false u).1, (tos spare false u).2), ((tos spare false d).1, (tos spare false d).2)), (((tos spare false u).1, (tos spare false u).2), ((tos spare false d).1, (tos spare false d).2)), ()) = some (true, ()) := by
  unfold S.l_intactLine P.l_intactLine
  dsimp only
  rw [intactStringS_eq u hu, Option.bind_some, intactStringS_eq d hd]
  rfl
theorem toLine_eq (u d : List ByteArray) (b : Bool) (hu : u.length ≤ 1000000) (hd : d.length ≤ 1000000) : S.l_toLine ((u, d), b, ()) = some ((tos spare b u, tos spare b d), ()) := by
  unfold S.l_toLine P.l_toLine
  dsimp only
  rw [toStringS_eq u b hu, Option.bind_some, toStringS_eq d b hd, Option.bind_some]
theorem s_law (us ds : List ByteArray) (a b : Int) (hu : okT us = true) (hd : okT ds = true) : S.s_TimeBetween ((us, ds), (a, (b, ()))) = some (timeT us ds a b, ()) := by
  unfold S.s_TimeBetween
  exact if_pos ⟨hu, hd⟩
theorem i_law (tu td : List ByteArray) (fr to : Int) (hu : okT tu = true) (hd : okT td = true) : S.i_TimeBetween ((tu, td), (fr, (to, ()))) = some (timeT tu td fr to, ()) := by
  unfold S.i_TimeBetween P.i_TimeBetween S.i_lineOf timeT
  dsimp only
  rw [if_pos ⟨hu, hd⟩, Option.bind_some]
  dsimp only
  cases hf : (lineQ tu td).2
  · rfl
  obtain ⟨h1, h2, h3, h4, h5, h6, h7⟩ := lineQ_ok hf
  rw [if_neg (by decide), h1]
  dsimp only
  have et : S.i_line_top (((rdAll tu).1.map (rp B32), (rdAll td).1.map (rp B32)), ()) = some ((tu.length : Int), ()) := by
    unfold S.i_line_top P.i_line_top
    dsimp only
    rw [List.length_map, h4]
  rw [et, Option.bind_some, Option.bind_some]
  dsimp only
  rw [inb_i, Option.bind_some]
  dsimp only
  by_cases ha : 0 ≤ fr ∧ fr ≤ (tu.length : Int)
  case neg =>
    rw [decide_eq_false ha]
    rfl
  rw [decide_eq_true ha, if_neg (by decide), inb_i, Option.bind_some]
  dsimp only
  by_cases hb : 0 ≤ to ∧ to ≤ (tu.length : Int)
  case neg =>
    rw [decide_eq_false hb]
    rfl
  rw [decide_eq_true hb, if_neg (by decide), if_pos (show (true && (true && true)) = true by rfl)]
  obtain ⟨a, rfl⟩ : ∃ a : Nat, fr = (a : Int) := ⟨fr.toNat, by omega⟩
  obtain ⟨b, rfl⟩ : ∃ b : Nat, to = (b : Int) := ⟨to.toNat, by omega⟩
  generalize (rdAll tu).1 = us at *
  generalize (rdAll td).1 = ds at *
  have isl : isLine B32 (us.map (rp B32), ds.map (rp B32)) := ⟨us, ds, rfl, h2, h3, by rw [h4, h5], by rw [h4]; exact h7⟩
  have eu : S.i_line_upTimes ((us.map (rp B32), ds.map (rp B32)), ()) = some ((upL us ds).map (rp B32), ()) := by
    unfold S.i_line_upTimes
    dsimp only
    rw [if_pos isl, map_rv B32_le, map_rv B32_le]
  have ed : S.i_line_downTimes ((us.map (rp B32), ds.map (rp B32)), ()) = some ((dnL us ds).map (rp B32), ()) := by
    unfold S.i_line_downTimes
    dsimp only
    rw [if_pos isl, map_rv B32_le, map_rv B32_le]
  have ul := upL_len us ds
  have dl := dnL_len us ds
  have uo := upL_ok h2 h3 (by rw [h4, h5]) (by rw [h4]; exact h7)
  have do' := dnL_ok h2 h3 (by rw [h4, h5]) (by rw [h4]; exact h7)
  generalize upL us ds = U at *
  generalize dnL us ds = D at *
  have sm : ∀ (L : List Q3) (x y : Nat), (∀ q ∈ L, low q ∧ below 8261 q) → L.length ≤ 20 → S.i_sum (seen (L.map (rp B32)) x y, ()) = some (rp B32 (sumQ ((L.drop x).take y)), ()) ∧ below 800000 (sumQ ((L.drop x).take y)) := by
    intro L x y hL hl
    have gq := good_slice hL x y (by omega)
    have e : seen (L.map (rp B32)) x y = ((L.drop x).take y).map (rp B32) := by
      unfold seen
      rw [List.map_take, List.map_drop]
    refine ⟨?_, (good_sum gq).2⟩
    rw [e]
    unfold S.i_sum
    dsimp only
    rw [if_pos ⟨_, _, rfl, gq⟩, map_rv B32_le]
  have cast : ((a : Int) ≤ (b : Int)) ↔ a ≤ b := by omega
  by_cases hab : a ≤ b
  · obtain ⟨s1, s2⟩ := sm U a (b - a) uo (by omega)
    rw [if_pos (decide_eq_true (cast.2 hab)), eu, Option.bind_some]
    dsimp only
    rw [if_pos (decide_eq_true hb.1), if_pos (decide_eq_true (by rw [List.length_map]; omega)), if_pos (decide_eq_true ha.1), if_pos (decide_eq_true (cast.2 hab)), Int.toNat_natCast, Int.toNat_natCast, s1, Option.bind_some, if_pos (cast.2 hab)]
    show Option.bind (S.i_told (rp B32 (sumQ ((U.drop a).take (b - a))), ())) _ = _
    rw [ri_told s2 (by decide), Option.bind_some]
  · have hba : (b : Int) ≤ (a : Int) := by omega
    obtain ⟨s1, s2⟩ := sm D b (a - b) do' (by omega)
    rw [if_neg (by simpa using fun z => hab (cast.1 z)), ed, Option.bind_some]
    dsimp only
    rw [if_pos (decide_eq_true ha.1), if_pos (decide_eq_true (by rw [List.length_map]; omega)), if_pos (decide_eq_true hb.1), if_pos (decide_eq_true hba), Int.toNat_natCast, Int.toNat_natCast, s1, Option.bind_some, if_neg (fun z => hab (cast.1 z))]
    show Option.bind (S.i_told (rp B32 (sumQ ((D.drop b).take (a - b))), ())) _ = _
    rw [ri_told s2 (by decide), Option.bind_some]
theorem TimeBetween_true (x : PTy [PK.bo (Kd.st (Kd.pair (Kd.sl Kd.str) (Kd.sl Kd.str))), PK.ro (Kd.int IntKind.i64), PK.ro (Kd.int IntKind.i64)]) (h : BdA _ x) (hz : SzA _ x) : ∃ m, S.l_FnExactTimeBetween x = some (true, m) := by
  obtain ⟨⟨u, d⟩, a, b, q⟩ := x
  obtain ⟨⟨h1, h2⟩, _⟩ := h
  refine ⟨(), ?_⟩
  show P.l_FnExactTimeBetween 0 ((u, d), (a, (b, ()))) = some (true, ())
  unfold P.l_FnExactTimeBetween
  dsimp only
  obtain ⟨r, e1, e2, e3⟩ := szLine_eq u d 1000000 (okTexts_of h1) (okTexts_of h2) (by omega) (by omega)
  rw [e1, Option.bind_some]
  by_cases hn : r < 0
  · simp [hn]
  obtain ⟨⟨ku, kd⟩, hu, hd⟩ := e3 (by omega)
  simp only [hn, decide_false, Bool.false_eq_true, if_false]
  simp only [toLine_eq u d _ hu hd, Option.bind_some, tos_take', s_law u d a b ku kd, i_law u d a b ku kd, intactLine_eq u d hu hd]
  simp
end Go.Cm
