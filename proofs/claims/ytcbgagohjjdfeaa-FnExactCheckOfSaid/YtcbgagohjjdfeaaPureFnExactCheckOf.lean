/- For every start and every string the law FnExactCheckOf of the Go program returns true: CheckOf and its reference agree. Condition: none but that the arguments can be read. -/
import Derived.Test.YtcbgagohjjdfeaaPFnExactCheckOfx1
namespace Go.Proofs.Ytcbgagohjjdfeaa.Pure
open Go.RowKit Go.Proofs.Ytcbgagohjjdfeaa.PFnExactCheckOf Go.Proofs.YtcbgagohjjdfeaaW.PrintWords Go.Proofs.YtcbgagohjjdfeaaW.PrintLast

theorem wrap_next {i : Int} {n : Nat} (h0 : 0 ≤ i) (h : i < (n : Int)) (hn : n ≤ 140737488351232) : wrap64 (i + 1) = i + 1 := by
  unfold wrap64
  omega

theorem same (s : ByteArray) (hn : s.size ≤ 140737488351232) : ∀ (k : Nat) (x i : Int), 0 ≤ i → impl_CheckOf.l0 k x s (s.size : Int) i = (spec_l01Check.l0 k x s i).bind fun r => some (r, true) := by
  intro k
  induction k with
  | zero => intro x i _; rfl
  | succ k ih =>
    intro x i h0
    simp only [spec_l01Check.l0, impl_CheckOf.l0]
    by_cases h : i < (s.size : Int)
    · rw [if_pos h, if_pos h, if_pos h0, if_pos h0, if_pos h, wrap_next h0 h hn, ih _ (i + 1) (by omega)]
    · rw [if_neg h, if_neg h]; rfl

theorem ends (s : ByteArray) (hn : s.size ≤ 140737488351232) : ∀ (k : Nat) (x i : Int), 0 ≤ i → (s.size : Int) - i < k → 0 < k → ∃ r, spec_l01Check.l0 k x s i = some r := by
  intro k
  induction k with
  | zero => intro x i _ _ h; omega
  | succ k ih =>
    intro x i h0 hk _
    simp only [spec_l01Check.l0]
    by_cases h : i < (s.size : Int)
    · rw [if_pos h, if_pos h0, wrap_next h0 h hn]
      exact ih _ (i + 1) (by omega) (by omega) (by omega)
    · rw [if_neg h]; exact ⟨_, rfl⟩

theorem FnExactCheckOf : laws_FnExactCheckOf.Pure := by
  intro x s _ hn
  obtain ⟨r, hr⟩ := ends s hn (s.size + 1) x 0 (by omega) (by omega) (by omega)
  refine ⟨s.size + 1, ?_⟩
  unfold laws_FnExactCheckOf.f spec_CheckOf.f impl_CheckOf.f
  rw [same s hn _ x 0 (by omega), hr]
  have e2 : spec_l01Check.f (s.size + 1) x s = some r := hr
  have e : impl_in.f x 0 65128 = spec_l00In.f x 0 65128 := rfl
  rw [e]
  unfold spec_l00In.f
  by_cases h : x ≥ 0
  · rw [if_pos h]
    by_cases h2 : x ≤ 65128
    · simp [h2, e2]
    · simp [h2]
  · rw [if_neg h]
    simp

end Go.Proofs.Ytcbgagohjjdfeaa.Pure
