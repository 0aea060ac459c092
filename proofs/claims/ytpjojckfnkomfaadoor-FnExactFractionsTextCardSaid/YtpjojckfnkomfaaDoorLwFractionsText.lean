import Derived.Test.YtpjojckfnkomfaaDoorPlFractionsText
import Derived.Test.YtpjojckfnkomfaaDoorCmZL
set_option linter.unusedVariables false
namespace Go.Cm
theorem okTexts_of {xs : List ByteArray} (h : Bd (.sl .str) xs) : okTexts xs := by
  obtain ⟨h1, h2⟩ := h
  have e : maxLen = 9223372036854775807 := rfl
  exact ⟨by rw [← e]; exact h1, fun x hx => by rw [← e]; exact h2 x hx⟩
theorem szGo_okT : ∀ (xs : List ByteArray) (l : Int), l ≤ 1000000 → 0 ≤ szGo xs l → okT xs = true
  | [], _, _, _ => rfl
  | x :: xs, l, h0, h => by
    unfold szGo at h
    split at h
    · omega
    · have := szGo_okT xs (l - (x.size : Int)) (by omega) h
      unfold okT at *
      rw [List.all_cons, this, Bool.and_true]
      have h1 : 0 ≤ l - (x.size : Int) := by omega
      exact decide_eq_true (by omega)
theorem szS_okT {xs : List ByteArray} {l : Int} (hl : l ≤ 1000000) (h : 0 ≤ szS xs l) : okT xs = true ∧ (xs.length : Int) ≤ l ∧ szS xs l ≤ l := by
  unfold szS at *
  split at h
  · omega
  · rename_i hn
    rw [if_neg hn]
    have hs := szGo_le xs (l - (xs.length : Int)) (by omega)
    exact ⟨szGo_okT xs _ (by omega) h, by omega, by omega⟩
theorem sz_eq {xs : List ByteArray} {l : Int} (h : okTexts xs) (h0 : 0 ≤ l) (h1 : l ≤ 1000000) : S.l_szStringS (xs, (l, ())) = some (szS xs l, ()) := by
  unfold S.l_szStringS
  exact if_pos ⟨h, h0, h1⟩
theorem tos_take' {xs : List ByteArray} (b : Bool) : List.take (tos spare b xs).2 (tos spare b xs).1 = xs := tos_take spare b xs
theorem s_law (xs : List ByteArray) (h : okT xs = true) : S.s_FractionsText (xs, ()) = some (if (rdAll xs).2 = true then (⟨(jT xs).toArray⟩, true) else (bs [], false), ()) := by
  unfold S.s_FractionsText P.s_FractionsText S.s_l01List
  dsimp only
  rw [if_pos h, Option.bind_some]
  dsimp only
  have hg := rdAll_ok (ls := xs)
  cases hf : (rdAll xs).2
  · rfl
  obtain ⟨h1, h2, _⟩ := hg hf
  unfold S.s_l01Texts
  dsimp only
  rw [if_neg (by decide), if_pos ⟨h, h2⟩, Option.bind_some, if_pos rfl]
theorem i_law (xs : List ByteArray) (h : okT xs = true) : S.i_FractionsText (xs, ()) = some (if (rdAll xs).2 = true then (⟨(jT xs).toArray⟩, true) else (bs [], false), ()) := by
  unfold S.i_FractionsText P.i_FractionsText S.i_rats
  dsimp only
  rw [if_pos h, Option.bind_some]
  dsimp only
  have hg := rdAll_ok (ls := xs)
  cases hf : (rdAll xs).2
  · rfl
  obtain ⟨h1, h2, _⟩ := hg hf
  unfold S.i_joined
  dsimp only
  rw [if_neg (by decide), if_pos ⟨h, h2⟩, Option.bind_some, if_pos rfl]
theorem FractionsText_true (x : PTy [PK.bo (Kd.sl Kd.str)]) (h : BdA _ x) (hz : SzA _ x) : ∃ m, S.l_FnExactFractionsText x = some (true, m) := by
  obtain ⟨xs, q⟩ := x
  have ht := okTexts_of h.1
  refine ⟨(), ?_⟩
  show P.l_FnExactFractionsText 0 (xs, ()) = some (true, ())
  unfold P.l_FnExactFractionsText
  dsimp only
  rw [sz_eq ht (by decide) (by decide), Option.bind_some]
  by_cases hn : szS xs 1000000 < 0
  · rw [if_pos (decide_eq_true hn)]
  · rw [if_neg (by simpa using hn)]
    obtain ⟨hk, hl, _⟩ := szS_okT (l := 1000000) (by decide) (by omega : 0 ≤ szS xs 1000000)
    rw [toStringS_eq xs false (by omega), toStringS_eq xs true (by omega)]
    simp only [Option.bind_some, tos_take']
    rw [s_law xs hk, i_law xs hk]
    simp only [Option.bind_some]
    rw [intactStringS_eq xs (by omega)]
    simp
end Go.Cm
