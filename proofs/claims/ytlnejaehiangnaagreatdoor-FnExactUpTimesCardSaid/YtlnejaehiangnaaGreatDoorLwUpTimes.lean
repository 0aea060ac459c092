import Derived.Test.YtlnejaehiangnaaGreatDoorPlUpTimes
import Derived.Test.YtlnejaehiangnaaGreatDoorCmZL
set_option linter.unusedVariables false
namespace Go.Cm
theorem splice_own {α : Type} (xs ys : List α) (h : ys.length = xs.length) : splice xs ys 0 = ys := by
  unfold splice
  simp [h]
theorem eqS_refl (xs : List ByteArray) (h : xs.length ≤ 1000000) : S.l_eqStringS (xs, (xs, ())) = some (true, ()) := by
  unfold S.l_eqStringS
  dsimp only
  rw [if_pos (by omega), eqTexts_refl]
theorem mkS (xs : List ByteArray) (q : Int) (h0 : 0 ≤ q) (hq : q ≤ 10000000) (h : xs.length ≤ 1000000) : S.l_markStringS (xs, (q, ())) = some (q + (xs.length : Int), (marks q xs.length, ())) := by
  unfold S.l_markStringS
  dsimp only
  rw [if_pos ⟨by omega, by omega, by omega⟩]
theorem hdS (n : Nat) (q : Int) (h0 : 0 ≤ q) (hq : q ≤ 10000000) (h : n ≤ 1000000) : S.l_heldStringS (marks q n, (q, ())) = some (q + (n : Int), ()) := by
  unfold S.l_heldStringS
  dsimp only
  rw [marks_len, if_pos ⟨by omega, by omega, by omega, rfl⟩]
theorem mkL (a b : List ByteArray) (ha : a.length ≤ 1000000) (hb : b.length ≤ 1000000) : S.l_markLine (a, (b, (101, ()))) = some (101 + (a.length : Int) + (b.length : Int), (marks 101 a.length, (marks (101 + (a.length : Int)) b.length, ()))) := by
  unfold S.l_markLine P.l_markLine
  dsimp only
  rw [mkS a 101 (by omega) (by omega) ha, Option.bind_some]
  dsimp only
  rw [mkS b _ (by omega) (by omega) hb, Option.bind_some]
  dsimp only
  rw [splice_own _ _ (marks_len _ _), splice_own _ _ (marks_len _ _)]
theorem okTexts_of {xs : List ByteArray} (h : Bd (.sl .str) xs) : okTexts xs := by
  obtain ⟨h1, h2⟩ := h
  have e : maxLen = 9223372036854775807 := rfl
  exact ⟨by rw [← e]; exact h1, fun x hx => by rw [← e]; exact h2 x hx⟩
theorem szGo_okT : ∀ (xs : List ByteArray) (l : Int), l ≤ 1000000 → 0 ≤ szGo xs l → okT xs = true
  | [], _, _, _ => rfl
  | x :: xs, l, h0, h => by
    unfold szGo at h
    split at h
    · omega
    · have := szGo_okT xs (l - (x.size : Int)) (by omega) h
      unfold okT at *
      rw [List.all_cons, this, Bool.and_true]
      have h1 : 0 ≤ l - (x.size : Int) := by omega
      exact decide_eq_true (by omega)
theorem szS_okT {xs : List ByteArray} {l : Int} (hl : l ≤ 1000000) (h : 0 ≤ szS xs l) : okT xs = true ∧ (xs.length : Int) ≤ l ∧ szS xs l ≤ l := by
  unfold szS at *
  split at h
  · omega
  · rename_i hn
    rw [if_neg hn]
    have hs := szGo_le xs (l - (xs.length : Int)) (by omega)
    exact ⟨szGo_okT xs _ (by omega) h, by omega, by omega⟩
theorem szStringS_eq (xs : List ByteArray) (l : Int) (h : okTexts xs) (h0 : 0 ≤ l) (h1 : l ≤ 1000000) : S.l_szStringS (xs, l, ()) = some (szS xs l, ()) := by
  unfold S.l_szStringS
  rw [if_pos ⟨h, h0, h1⟩]
theorem szLine_eq (u d : List ByteArray) (l : Int) (hu : okTexts u) (hd : okTexts d) (h0 : 0 ≤ l) (h1 : l ≤ 1000000) : ∃ r, S.l_szLine ((u, d), l, ()) = some (r, ()) ∧ r ≤ l ∧ (0 ≤ r → (okT u = true ∧ okT d = true) ∧ u.length ≤ 1000000 ∧ d.length ≤ 1000000) := by
  unfold S.l_szLine P.l_szLine
  dsimp only
  rw [szStringS_eq u l hu h0 h1, Option.bind_some]
  have a := szS_le u l h0
  by_cases hn : szS u l < 0
  · refine ⟨-1, by simp [hn], by omega, by omega⟩
  · obtain ⟨u1, u2, u3⟩ := szS_okT h1 (show 0 ≤ szS u l by omega)
    simp only [hn, decide_false, Bool.false_eq_true, if_false]
    rw [szStringS_eq d _ hd (by omega) (by omega), Option.bind_some]
    have b := szS_le d (szS u l) (by omega)
    by_cases hm : szS d (szS u l) < 0
    · refine ⟨-1, by simp [hm], by omega, by omega⟩
    · obtain ⟨d1, d2, d3⟩ := szS_okT (l := szS u l) (by omega) (show 0 ≤ szS d (szS u l) by omega)
      exact ⟨szS d (szS u l), by simp [hm], by omega, fun _ => ⟨⟨u1, d1⟩, by omega, by omega⟩⟩
theorem tos_take' {xs : List ByteArray} (b : Bool) : List.take (tos spare b xs).2 (tos spare b xs).1 = xs := tos_take spare b xs
theorem intactLine_eq (u d : List ByteArray) (hu : u.length ≤ 1000000) (hd : d.length ≤ 1000000) : S.l_intactLine ((((tos spare false u).1, (tos spare false u).2), ((tos spare false d).1, (tos spare false d).2)), (((tos spare false u).1, (tos spare false u).2), ((tos spare false d).1, (tos spare false d).2)), ()) = some (true, ()) := by
  unfold S.l_intactLine P.l_intactLine
  dsimp only
  rw [intactStringS_eq u hu, Option.bind_some, intactStringS_eq d hd]
  rfl
theorem tos_seen {xs : List ByteArray} (b : Bool) : seen (tos spare b xs).1 0 (tos spare b xs).2 = xs := by
  unfold seen
  rw [List.drop_zero, tos_take']
theorem toStringSo_eq (xs : List ByteArray) (b : Bool) (h : xs.length ≤ 1000000) : S.l_toStringSo (xs, b, ()) = some (tos spare b xs, ()) := by
  unfold S.l_toStringSo
  exact toStringS_eq xs b h
theorem toLine_eq (u d : List ByteArray) (b : Bool) (hu : u.length ≤ 1000000) (hd : d.length ≤ 1000000) : S.l_toLineo ((u, d), b, ()) = some ((tos spare b u, tos spare b d), ()) := by
  unfold S.l_toLineo P.l_toLineo
  dsimp only
  rw [toStringSo_eq u b hu, Option.bind_some, toStringSo_eq d b hd, Option.bind_some]
/-- What is told. -/
def timesT (us ds : List ByteArray) : List ByteArray × Bool := if (lineQ us ds).2 = true then giveL (upL (lineQ us ds).1.1 (lineQ us ds).1.2) else ([], false)
theorem timesT_len (us ds : List ByteArray) : (timesT us ds).1.length ≤ 20 := by
  unfold timesT
  split
  · rename_i hc
    obtain ⟨h1, h2, h3, h4, h5, h6, h7⟩ := lineQ_ok hc
    unfold giveL
    split
    · rw [h1]
      unfold upL
      simp only [List.length_map, List.length_range]
      omega
    · simp
  · simp
theorem s_law (us ds : List ByteArray) (hu : okT us = true) (hd : okT ds = true) : S.s_UpTimes ((us, ds), ()) = some (timesT us ds, ()) := by
  unfold S.s_UpTimes P.s_UpTimes S.s_l02Parse timesT
  dsimp only
  rw [if_pos ⟨hu, hd⟩, Option.bind_some]
  dsimp only
  cases hf : (lineQ us ds).2
  · rfl
  obtain ⟨h1, h2, h3, h4, h5, h6, h7⟩ := lineQ_ok hf
  have e : S.s_l02UpTimes (((lineQ us ds).1.1.map (rp B10), (lineQ us ds).1.2.map (rp B10)), ()) = some ((upL (lineQ us ds).1.1 (lineQ us ds).1.2).map (rp B10), ()) := by
    unfold S.s_l02UpTimes
    dsimp only
    rw [if_pos (lineQ_isLine hf), map_rv B10_le, map_rv B10_le]
  rw [if_neg (by decide), e, Option.bind_some, if_pos rfl]
  dsimp only
  have hok : ∀ q ∈ upL (lineQ us ds).1.1 (lineQ us ds).1.2, low q ∧ below 8261 q := by
    rw [h1]
    exact upL_ok h2 h3 (by rw [h4, h5]) (by rw [h4]; exact h7)
  have eg : S.s_l02GiveAll ((upL (lineQ us ds).1.1 (lineQ us ds).1.2).map (rp B10), ()) = some (giveL (upL (lineQ us ds).1.1 (lineQ us ds).1.2), ()) := by
    unfold S.s_l02GiveAll
    dsimp only
    rw [if_pos ⟨all_rok (by decide) (by decide) hok, by rw [h1]; unfold upL; simp only [List.length_map, List.length_range]; omega⟩, map_rv B10_le]
  rw [eg, Option.bind_some]
theorem i_law (us ds : List ByteArray) (hu : okT us = true) (hd : okT ds = true) : S.i_UpTimes ((us, ds), ()) = some (timesT us ds, ()) := by
  unfold S.i_UpTimes P.i_UpTimes S.i_lineOf timesT
  dsimp only
  rw [if_pos ⟨hu, hd⟩, Option.bind_some]
  dsimp only
  cases hf : (lineQ us ds).2
  · rfl
  obtain ⟨h1, h2, h3, h4, h5, h6, h7⟩ := lineQ_ok hf
  have e : S.i_line_upTimes (((lineQ us ds).1.1.map (rp B32), (lineQ us ds).1.2.map (rp B32)), ()) = some ((upL (lineQ us ds).1.1 (lineQ us ds).1.2).map (rp B32), ()) := by
    unfold S.i_line_upTimes
    dsimp only
    rw [if_pos (lineQ_isLine hf), map_rv B32_le, map_rv B32_le]
  rw [if_neg (by decide), e, Option.bind_some, if_pos rfl]
  dsimp only
  have hok : ∀ q ∈ upL (lineQ us ds).1.1 (lineQ us ds).1.2, low q ∧ below 8261 q := by
    rw [h1]
    exact upL_ok h2 h3 (by rw [h4, h5]) (by rw [h4]; exact h7)
  have eg : S.i_toldList ((upL (lineQ us ds).1.1 (lineQ us ds).1.2).map (rp B32), ()) = some (giveL (upL (lineQ us ds).1.1 (lineQ us ds).1.2), ()) := by
    unfold S.i_toldList
    dsimp only
    rw [if_pos ⟨all_rok (by decide) (by decide) hok, by rw [h1]; unfold upL; simp only [List.length_map, List.length_range]; omega⟩, map_rv B32_le]
  rw [eg, Option.bind_some]
theorem UpTimes_true (x : PTy [PK.bo (Kd.st (Kd.pair (Kd.sl Kd.str) (Kd.sl Kd.str)))]) (h : BdA _ x) (hz : SzA _ x) : ∃ m, S.l_FnExactUpTimes x = some (true, m) := by
  obtain ⟨⟨u, d⟩, q⟩ := x
  obtain ⟨⟨h1, h2⟩, _⟩ := h
  refine ⟨(), ?_⟩
  show P.l_FnExactUpTimes 0 ((u, d), ()) = some (true, ())
  unfold P.l_FnExactUpTimes
  dsimp only
  obtain ⟨r, e1, e2, e3⟩ := szLine_eq u d 1000000 (okTexts_of h1) (okTexts_of h2) (by omega) (by omega)
  rw [e1, Option.bind_some]
  by_cases hn : r < 0
  · simp [hn]
  obtain ⟨⟨ku, kd⟩, hu, hd⟩ := e3 (by omega)
  simp only [hn, decide_false, Bool.false_eq_true, if_false]
  simp only [toLine_eq u d _ hu hd, Option.bind_some, tos_seen, s_law u d ku kd, i_law u d ku kd, List.drop_zero, intactLine_eq u d hu hd]
  have hl := timesT_len u d
  generalize timesT u d = y at hl ⊢
  obtain ⟨g, f⟩ := y
  dsimp only at hl ⊢
  rw [eqS_refl g (by omega), mkL u d hu hd, mkS g 101 (by omega) (by omega) (by omega)]
  simp only [Option.bind_some]
  rw [splice_own _ _ (marks_len _ _), hdS g.length 101 (by omega) (by omega) (by omega)]
  simp only [Option.bind_some]
  have e5 : ¬ (101 + (u.length : Int) + (d.length : Int) < 0) := by omega
  have e6 : ¬ (101 + (g.length : Int) < 0) := by omega
  simp [e5, e6]
end Go.Cm
