import Derived.Test.YtlnejaehiangnaaGreatDoorPlIsInBalance
import Derived.Test.YtlnejaehiangnaaGreatDoorCmZL
set_option linter.unusedVariables false
namespace Go.Cm
theorem okTexts_of {xs : List ByteArray} (h : Bd (.sl .str) xs) : okTexts xs := by
  obtain ⟨h1, h2⟩ := h
  have e : maxLen = 9223372036854775807 := rfl
  exact ⟨by rw [← e]; exact h1, fun x hx => by rw [← e]; exact h2 x hx⟩
theorem szGo_okT : ∀ (xs : List ByteArray) (l : Int), l ≤ 1000000 → 0 ≤ szGo xs l → okT xs = true
  | [], _, _, _ => rfl
  | x :: xs, l, h0, h => by
    unfold szGo at h
    split at h
    · omega
    · have := szGo_okT xs (l - (x.size : Int)) (by omega) h
      unfold okT at *
      rw [List.all_cons, this, Bool.and_true]
      have h1 : 0 ≤ l - (x.size : Int) := by omega
      exact decide_eq_true (by omega)
theorem szS_okT {xs : List ByteArray} {l : Int} (hl : l ≤ 1000000) (h : 0 ≤ szS xs l) : okT xs = true ∧ (xs.length : Int) ≤ l ∧ szS xs l ≤ l := by
  unfold szS at *
  split at h
  · omega
  · rename_i hn
    rw [if_neg hn]
    have hs := szGo_le xs (l - (xs.length : Int)) (by omega)
    exact ⟨szGo_okT xs _ (by omega) h, by omega, by omega⟩
theorem szStringS_eq (xs : List ByteArray) (l : Int) (h : okTexts xs) (h0 : 0 ≤ l) (h1 : l ≤ 1000000) : S.l_szStringS (xs, l, ()) = some (szS xs l, ()) := by
  unfold S.l_szStringS
  rw [if_pos ⟨h, h0, h1⟩]
theorem szLine_eq (u d : List ByteArray) (l : Int) (hu : okTexts u) (hd : okTexts d) (h0 : 0 ≤ l) (h1 : l ≤ 1000000) : ∃ r, S.l_szLine ((u, d), l, ()) = some (r, ()) ∧ r ≤ l ∧ (0 ≤ r → (okT u = true ∧ okT d = true) ∧ u.length ≤ 1000000 ∧ d.length ≤ 1000000) := by
  unfold S.l_szLine P.l_szLine
  dsimp only
  rw [szStringS_eq u l hu h0 h1, Option.bind_some]
  have a := szS_le u l h0
  by_cases hn : szS u l < 0
  · refine ⟨-1, by simp [hn], by omega, by omega⟩
  · obtain ⟨u1, u2, u3⟩ := szS_okT h1 (show 0 ≤ szS u l by omega)
    simp only [hn, decide_false, Bool.false_eq_true, if_false]
    rw [szStringS_eq d _ hd (by omega) (by omega), Option.bind_some]
    have b := szS_le d (szS u l) (by omega)
    by_cases hm : szS d (szS u l) < 0
    · refine ⟨-1, by simp [hm], by omega, by omega⟩
    · obtain ⟨d1, d2, d3⟩ := szS_okT (l := szS u l) (by omega) (show 0 ≤ szS d (szS u l) by omega)
      exact ⟨szS d (szS u l), by simp [hm], by omega, fun _ => ⟨⟨u1, d1⟩, by omega, by omega⟩⟩
theorem tos_take' {xs : List ByteArray} (b : Bool) : List.take (tos spare b xs).2 (tos spare b xs).1 = xs := tos_take spare b xs
theorem intactLine_eq (u d : List ByteArray) (hu : u.length ≤ 1000000) (hd : d.length ≤ 1000000) : S.l_intactLine ((((tos spare false u).1, (tos spare false u).2), ((tos spare false d).1, (tos spare false d).2)), (((tos spare false u).1, (tos spare false u).2), ((tos spare false d).1, (tos spare false d).2)), ()) = some (true, ()) := by
  unfold S.l_intactLine P.l_intactLine
  dsimp only
  rw [intactStringS_eq u hu, Option.bind_some, intactStringS_eq d hd]
  rfl
theorem toLine_eq (u d : List ByteArray) (b : Bool) (hu : u.length ≤ 1000000) (hd : d.length ≤ 1000000) : S.l_toLine ((u, d), b, ()) = some ((tos spare b u, tos spare b d), ()) := by
  unfold S.l_toLine P.l_toLine
  dsimp only
  rw [toStringS_eq u b hu, Option.bind_some, toStringS_eq d b hd, Option.bind_some]
theorem IsInBalance_true (x : PTy [PK.bo (Kd.st (Kd.pair (Kd.sl Kd.str) (Kd.sl Kd.str))), PK.bo (Kd.sl Kd.str)]) (h : BdA _ x) (hz : SzA _ x) : ∃ m, S.l_FnExactIsInBalance x = some (true, m) := by
  obtain ⟨⟨u, d⟩, ws, q⟩ := x
  obtain ⟨⟨h1, h2⟩, h3, _⟩ := h
  refine ⟨(), ?_⟩
  show P.l_FnExactIsInBalance 0 ((u, d), (ws, ())) = some (true, ())
  unfold P.l_FnExactIsInBalance
  dsimp only
  obtain ⟨r, e1, e2, e3⟩ := szLine_eq u d 1000000 (okTexts_of h1) (okTexts_of h2) (by omega) (by omega)
  rw [e1, Option.bind_some]
  by_cases hn : r < 0
  · simp [hn]
  obtain ⟨⟨ku, kd⟩, hu, hd⟩ := e3 (by omega)
  simp only [hn, decide_false, Bool.false_eq_true, if_false]
  rw [szStringS_eq ws r (okTexts_of h3) (by omega) (by omega), Option.bind_some]
  by_cases hm : szS ws r < 0
  · simp [hm]
  obtain ⟨kw, hw, _⟩ := szS_okT e2 (show 0 ≤ szS ws r by omega)
  simp only [hm, decide_false, Bool.false_eq_true, if_false]
  have es : S.s_IsInBalance ((u, d), (ws, ())) = some (balT u d ws, ()) := by
    unfold S.s_IsInBalance
    exact if_pos ⟨ku, kd, kw⟩
  have ei : S.i_IsInBalance ((u, d), (ws, ())) = some (balT u d ws, ()) := by
    unfold S.i_IsInBalance
    exact if_pos ⟨ku, kd, kw⟩
  simp only [toLine_eq u d _ hu hd, toStringS_eq ws _ (show ws.length ≤ 1000000 by omega), Option.bind_some, tos_take', es, ei, intactLine_eq u d hu hd, intactStringS_eq ws (show ws.length ≤ 1000000 by omega)]
  simp
end Go.Cm
