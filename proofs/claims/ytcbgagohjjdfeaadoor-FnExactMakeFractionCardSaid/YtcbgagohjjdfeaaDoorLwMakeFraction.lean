import Derived.Test.YtcbgagohjjdfeaaDoorPlMakeFraction
set_option linter.unusedVariables false
namespace Go.Cm
theorem wf64 {n : Int} (h : (Lit.int .i64 n).wf = true) : -9223372036854775808 ≤ n ∧ n ≤ 9223372036854775807 := by
  simp only [Lit.wf, Bool.and_eq_true, decide_eq_true_eq] at h
  exact h
theorem lowN_rok {B : Nat} (hB : 1000 ≤ B) (neg : Bool) (p q N : Nat) (hp : p < B ^ N) (hq : q < B ^ N) : rok B N (rp B (lowN neg p q)) = true := by
  refine rok_rp (by omega) _ ?_ ?_
  · exact Nat.lt_of_le_of_lt (Nat.div_le_self _ _) hp
  · exact Nat.lt_of_le_of_lt (Nat.div_le_self _ _) hq
theorem rok_more {B N M : Nat} (h : N ≤ M) {x : Bool × (List Int × List Int)} (hx : rok B N x = true) : rok B M x = true := by
  rw [rok_iff] at hx ⊢
  exact ⟨hx.1, hx.2.1, by omega, by omega⟩
theorem s_make (a b : Int) (ha : -9223372036854775808 ≤ a ∧ a ≤ 9223372036854775807) (hb : -9223372036854775808 ≤ b ∧ b ≤ 9223372036854775807) : S.s_MakeFraction (a, (b, ())) = some (if b = 0 then (bs [], false) else giveN (lowN (!((decide (a < (0 : Int))) == (decide (b < (0 : Int))))) a.natAbs b.natAbs), ()) := by
  unfold S.s_MakeFraction P.s_MakeFraction
  dsimp only
  by_cases h0 : b = 0
  · subst h0
    rfl
  · rw [if_neg (by simpa using h0), if_neg h0]
    have e1 : ∀ n : Int, -9223372036854775808 ≤ n ∧ n ≤ 9223372036854775807 → S.s_l01Abs (n, ()) = some (nd B10 n.natAbs, ()) := fun n hn => by
      unfold S.s_l01Abs
      exact if_pos hn
    have hB3 : B10 ^ 3 = 1000000000000000000000000000 := by decide
    rw [e1 a ha, Option.bind_some, e1 b hb, Option.bind_some]
    unfold S.s_l01Make S.s_l01Give
    dsimp only
    have la := (nd_len B10_le a.natAbs 3).2 (by omega)
    have lb := (nd_len B10_le b.natAbs 3).2 (by omega)
    rw [if_pos ⟨canon_nd B10_le _, canon_nd B10_le _, by rw [nd_pos B10_le (by omega)]; simp, by omega, by omega⟩, Option.bind_some, dval_nd B10_le, dval_nd B10_le]
    dsimp only
    have hr := rok_more (M := 100000) (by omega) (lowN_rok (B := B10) (by decide) (!((decide (a < (0 : Int))) == (decide (b < (0 : Int))))) a.natAbs b.natAbs 3 (by omega) (by omega))
    have hv := rv_rp B10_le (lowN (!((decide (a < (0 : Int))) == (decide (b < (0 : Int))))) a.natAbs b.natAbs)
    show Option.bind (if rok B10 100000 (rp B10 (lowN (!((decide (a < (0 : Int))) == (decide (b < (0 : Int))))) a.natAbs b.natAbs)) = true then some (giveN (rv B10 (rp B10 (lowN (!((decide (a < (0 : Int))) == (decide (b < (0 : Int))))) a.natAbs b.natAbs))), ()) else none) _ = _
    rw [if_pos hr, hv, Option.bind_some]
theorem i_make (a b : Int) (ha : -9223372036854775808 ≤ a ∧ a ≤ 9223372036854775807) (hb : -9223372036854775808 ≤ b ∧ b ≤ 9223372036854775807) : S.i_MakeFraction (a, (b, ())) = some (if b = 0 then (bs [], false) else giveN (lowN (!((decide (a < (0 : Int))) == (decide (b < (0 : Int))))) a.natAbs b.natAbs), ()) := by
  unfold S.i_MakeFraction P.i_MakeFraction
  dsimp only
  by_cases h0 : b = 0
  · subst h0
    rfl
  · rw [if_neg (by simpa using h0), if_neg h0]
    have e1 : ∀ n : Int, -9223372036854775808 ≤ n ∧ n ≤ 9223372036854775807 → S.i_magnitude (n, ()) = some (((n.natAbs : Nat) : Int), ()) := fun n hn => by
      unfold S.i_magnitude
      exact if_pos hn
    have e2 : ∀ n : Int, -9223372036854775808 ≤ n ∧ n ≤ 9223372036854775807 → S.i_natOf (((n.natAbs : Nat) : Int), ()) = some (nd B32 n.natAbs, ()) := fun n hn => by
      unfold S.i_natOf
      dsimp only
      rw [if_pos ⟨by omega, by omega⟩, Int.toNat_natCast]
    have hB3 : B32 ^ 3 = 79228162514264337593543950336 := by decide
    rw [e1 a ha, Option.bind_some, e2 a ha, Option.bind_some, e1 b hb, Option.bind_some, e2 b hb, Option.bind_some]
    unfold S.i_lowest S.i_told
    dsimp only
    have la := (nd_len B32_le a.natAbs 3).2 (by omega)
    have lb := (nd_len B32_le b.natAbs 3).2 (by omega)
    rw [if_pos ⟨canon_nd B32_le _, canon_nd B32_le _, by rw [nd_pos B32_le (by omega)]; simp, by omega, by omega⟩, Option.bind_some, dval_nd B32_le, dval_nd B32_le]
    dsimp only
    have hr := rok_more (M := 100000) (by omega) (lowN_rok (B := B32) (by decide) (!((decide (a < (0 : Int))) == (decide (b < (0 : Int))))) a.natAbs b.natAbs 3 (by omega) (by omega))
    have hv := rv_rp B32_le (lowN (!((decide (a < (0 : Int))) == (decide (b < (0 : Int))))) a.natAbs b.natAbs)
    show Option.bind (if rok B32 100000 (rp B32 (lowN (!((decide (a < (0 : Int))) == (decide (b < (0 : Int))))) a.natAbs b.natAbs)) = true then some (giveN (rv B32 (rp B32 (lowN (!((decide (a < (0 : Int))) == (decide (b < (0 : Int))))) a.natAbs b.natAbs))), ()) else none) _ = _
    rw [if_pos hr, hv, Option.bind_some]
theorem MakeFraction_true (x : PTy [PK.ro (Kd.int IntKind.i64), PK.ro (Kd.int IntKind.i64)]) (h : BdA _ x) : ∃ m, S.l_FnExactMakeFraction x = some (true, m) := by
  obtain ⟨a, b, q⟩ := x
  obtain ⟨h1, h2, _⟩ := h
  refine ⟨(), ?_⟩
  show P.l_FnExactMakeFraction 0 (a, (b, ())) = some (true, ())
  unfold P.l_FnExactMakeFraction
  dsimp only
  rw [s_make a b (wf64 h1) (wf64 h2), i_make a b (wf64 h1) (wf64 h2), Option.bind_some, Option.bind_some]
  simp
end Go.Cm
