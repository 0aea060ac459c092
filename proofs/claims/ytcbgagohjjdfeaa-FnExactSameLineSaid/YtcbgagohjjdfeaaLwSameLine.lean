import Derived.Test.YtcbgagohjjdfeaaPlA2
set_option linter.unusedVariables false
namespace Go.Cm
theorem szStringS_eq (xs : List ByteArray) (l : Int) (h : okTexts xs) (h0 : 0 ≤ l) (h1 : l ≤ 1000000) : S.l_szStringS (xs, l, ()) = some (szS xs l, ()) := by
  unfold S.l_szStringS
  rw [if_pos ⟨h, h0, h1⟩]
theorem szLine_eq (u d : List ByteArray) (l : Int) (hu : okTexts u) (hd : okTexts d) (h0 : 0 ≤ l) (h1 : l ≤ 1000000) : ∃ r, S.l_szLine ((u, d), l, ()) = some (r, ()) ∧ r ≤ l ∧ (0 ≤ r → u.length ≤ 1000000 ∧ d.length ≤ 1000000) := by
  unfold S.l_szLine P.l_szLine
  dsimp only
  rw [szStringS_eq u l hu h0 h1, Option.bind_some]
  have a := szS_le u l h0
  by_cases hn : szS u l < 0
  · refine ⟨-1, by simp [hn], by omega, by omega⟩
  · have hu2 := szS_len u l (by omega)
    simp only [hn, decide_false, Bool.false_eq_true, if_false]
    rw [szStringS_eq d _ hd (by omega) (by omega), Option.bind_some]
    have b := szS_le d (szS u l) (by omega)
    by_cases hm : szS d (szS u l) < 0
    · refine ⟨-1, by simp [hm], by omega, by omega⟩
    · have hd2 := szS_len d (szS u l) (by omega)
      refine ⟨szS d (szS u l), by simp [hm], by omega, fun _ => by omega⟩
theorem toLine_eq (u d : List ByteArray) (b : Bool) (hu : u.length ≤ 1000000) (hd : d.length ≤ 1000000) : S.l_toLine ((u, d), b, ()) = some ((tos spare b u, tos spare b d), ()) := by
  unfold S.l_toLine P.l_toLine
  dsimp only
  rw [toStringS_eq u b hu, Option.bind_some, toStringS_eq d b hd, Option.bind_some]
theorem intactLine_eq (u d : List ByteArray) (hu : u.length ≤ 1000000) (hd : d.length ≤ 1000000) : S.l_intactLine ((((tos spare false u).1, (tos spare false u).2), ((tos spare false d).1, (tos spare false d).2)), (((tos spare false u).1, (tos spare false u).2), ((tos spare false d).1, (tos spare false d).2)), ()) = some (true, ()) := by
  unfold S.l_intactLine P.l_intactLine
  dsimp only
  rw [intactStringS_eq u hu, Option.bind_some, intactStringS_eq d hd]
  rfl
theorem sameLine_s (a b c d : List ByteArray) (h1 : a.length ≤ 1000000) (h2 : b.length ≤ 1000000) : S.s_SameLine ((a, b), (c, d), ()) = some ((eqTexts a c && eqTexts b d), ()) := by
  unfold S.s_SameLine P.s_SameLine
  dsimp only
  unfold S.s_l02Texts
  dsimp only
  have g1 : a.length ≤ 9223372036854775807 := by omega
  have g2 : b.length ≤ 9223372036854775807 := by omega
  simp only [g1, g2, if_true, Option.bind_some]
  cases eqTexts a c <;> simp
theorem sameLine_i (a b c d : List ByteArray) (h1 : a.length ≤ 1000000) (h2 : b.length ≤ 1000000) : S.i_SameLine ((a, b), (c, d), ()) = some ((eqTexts a c && eqTexts b d), ()) := by
  unfold S.i_SameLine P.i_SameLine
  dsimp only
  unfold S.slices_Equal__string_string
  dsimp only
  have g1 : a.length ≤ 9223372036854775807 := by omega
  have g2 : b.length ≤ 9223372036854775807 := by omega
  simp only [g1, g2, if_true, Option.bind_some]
  cases eqTexts a c <;> simp
theorem okTexts_of {xs : List ByteArray} (h : Bd (.sl .str) xs) : okTexts xs := by
  obtain ⟨h1, h2⟩ := h
  have e : maxLen = 9223372036854775807 := rfl
  exact ⟨by rw [← e]; exact h1, fun x hx => by rw [← e]; exact h2 x hx⟩
theorem SameLine_true (x : PTy [PK.bo (Kd.st (Kd.pair (Kd.sl Kd.str) (Kd.sl Kd.str))), PK.bo (Kd.st (Kd.pair (Kd.sl Kd.str) (Kd.sl Kd.str)))]) (h : BdA _ x) : ∃ m, S.l_FnExactSameLine x = some (true, m) := by
  obtain ⟨⟨u, d⟩, ⟨u', d'⟩, q⟩ := x
  obtain ⟨⟨h1, h2⟩, ⟨h3, h4⟩, _⟩ := h
  refine ⟨(), ?_⟩
  show P.l_FnExactSameLine 0 ((u, d), (u', d'), ()) = some (true, ())
  unfold P.l_FnExactSameLine
  dsimp only
  obtain ⟨r, e1, e2, e3⟩ := szLine_eq u d 1000000 (okTexts_of h1) (okTexts_of h2) (by omega) (by omega)
  rw [e1, Option.bind_some]
  by_cases hn : r < 0
  · simp [hn]
  obtain ⟨hu, hd⟩ := e3 (by omega)
  simp only [hn, decide_false, Bool.false_eq_true, if_false]
  obtain ⟨r', f1, f2, f3⟩ := szLine_eq u' d' r (okTexts_of h3) (okTexts_of h4) (by omega) (by omega)
  rw [f1, Option.bind_some]
  by_cases hm : r' < 0
  · simp [hm]
  obtain ⟨hu', hd'⟩ := f3 (by omega)
  simp only [hm, decide_false, Bool.false_eq_true, if_false]
  simp only [toLine_eq u d _ hu hd, toLine_eq u' d' _ hu' hd', Option.bind_some, tos_take, sameLine_s u d u' d' hu hd, sameLine_i u d u' d' hu hd, intactLine_eq u d hu hd, intactLine_eq u' d' hu' hd']
  simp
end Go.Cm
