import Derived.Test.YtcbgagohjjdfeaaPlA3
set_option linter.unusedVariables false
namespace Go.Cm
theorem okTT_of {xs : List (List ByteArray)} (h : Bd (.sl (.sl .str)) xs) : okTT xs := by
  obtain ⟨h1, h2⟩ := h
  have e : maxLen = 9223372036854775807 := rfl
  refine ⟨by rw [← e]; exact h1, fun x hx => ?_⟩
  obtain ⟨h3, h4⟩ := h2 x hx
  exact ⟨by rw [← e]; exact h3, fun y hy => by rw [← e]; exact h4 y hy⟩
theorem szChain_eq (u : List (List ByteArray)) (l : Int) (hu : okTT u) (h0 : 0 ≤ l) (h1 : l ≤ 1000000) : ∃ r, S.l_szChain (u, l, ()) = some (r, ()) ∧ r ≤ l ∧ (0 ≤ r → okR u) := by
  unfold S.l_szChain P.l_szChain
  dsimp only
  have e : S.l_szStringSS (u, l, ()) = some (sz2 u l, ()) := by
    unfold S.l_szStringSS
    rw [if_pos ⟨hu, h0, h1⟩]
  obtain ⟨a, b, c⟩ := sz2_le u l h0
  rw [e, Option.bind_some]
  by_cases hn : sz2 u l < 0
  · exact ⟨-1, by simp [hn], by omega, by omega⟩
  · refine ⟨sz2 u l, by simp [hn], by omega, fun h => ?_⟩
    obtain ⟨c1, c2⟩ := c h
    exact ⟨by omega, fun x hx => by have := c2 x hx; omega⟩
theorem toChain_eq (u : List (List ByteArray)) (b : Bool) (hu : okR u) : S.l_toChain (u, b, ()) = some (tos2 b u, ()) := by
  unfold S.l_toChain P.l_toChain
  dsimp only
  have e : S.l_toStringSS (u, b, ()) = some (tos2 b u, ()) := by
    unfold S.l_toStringSS
    rw [if_pos hu]
  rw [e, Option.bind_some]
theorem intactChain_eq (u : List (List ByteArray)) (hu : okR u) : S.l_intactChain (((tos2 false u).1, (tos2 false u).2), ((tos2 false u).1, (tos2 false u).2), ()) = some (true, ()) := by
  unfold S.l_intactChain P.l_intactChain
  dsimp only
  have e : S.l_intactStringSS (((tos2 false u).1, (tos2 false u).2), ((tos2 false u).1, (tos2 false u).2), ()) = some (true, ()) := by
    unfold S.l_intactStringSS
    rw [if_pos ⟨u, hu, rfl⟩]
  rw [e]
  rfl
theorem sameChain_s (a c : List (List ByteArray)) (h : okR a) : S.s_SameChain (a, c, ()) = some (eqTT a c, ()) := by
  unfold S.s_SameChain P.s_SameChain
  dsimp only
  unfold S.s_l03Same
  rw [if_pos h]
  rfl
theorem sameChain_i (a c : List (List ByteArray)) (h : okR a) : S.i_SameChain (a, c, ()) = some (eqTT a c, ()) := by
  unfold S.i_SameChain P.i_SameChain
  dsimp only
  unfold S.slices_EqualFunc___string___string__string__string
  have h1 := h.1
  have g : a.length ≤ 9223372036854775807 := by omega
  rw [if_pos ⟨g, fun r hr => by have := h.2 r hr; omega⟩]
  rfl
theorem SameChain_true (x : PTy [PK.bo (Kd.st (Kd.sl (Kd.sl Kd.str))), PK.bo (Kd.st (Kd.sl (Kd.sl Kd.str)))]) (h : BdA _ x) : ∃ m, S.l_FnExactSameChain x = some (true, m) := by
  obtain ⟨u, u', q⟩ := x
  obtain ⟨h1, h3, _⟩ := h
  refine ⟨(), ?_⟩
  show P.l_FnExactSameChain 0 (u, u', ()) = some (true, ())
  unfold P.l_FnExactSameChain
  dsimp only
  obtain ⟨r, e1, e2, e3⟩ := szChain_eq u 1000000 (okTT_of h1) (by omega) (by omega)
  rw [e1, Option.bind_some]
  by_cases hn : r < 0
  · simp [hn]
  have hu := e3 (by omega)
  simp only [hn, decide_false, Bool.false_eq_true, if_false]
  obtain ⟨r', f1, f2, f3⟩ := szChain_eq u' r (okTT_of h3) (by omega) (by omega)
  rw [f1, Option.bind_some]
  by_cases hm : r' < 0
  · simp [hm]
  have hu' := f3 (by omega)
  simp only [hm, decide_false, Bool.false_eq_true, if_false]
  simp only [toChain_eq u _ hu, toChain_eq u' _ hu', Option.bind_some, tos2_take, sameChain_s u u' hu, sameChain_i u u' hu, intactChain_eq u hu, intactChain_eq u' hu']
  simp
end Go.Cm
