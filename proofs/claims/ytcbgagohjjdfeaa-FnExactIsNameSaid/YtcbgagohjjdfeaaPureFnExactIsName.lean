/- For every string the law FnExactIsName of the Go program returns true: IsName and its reference agree. Condition: none but that the string can be read. -/
import Derived.Test.YtcbgagohjjdfeaaPFnExactIsNamex1
namespace Go.Proofs.Ytcbgagohjjdfeaa.Pure
open Go.RowKit Go.Proofs.Ytcbgagohjjdfeaa.PFnExactIsName Go.Proofs.YtcbgagohjjdfeaaW.PrintWords Go.Proofs.YtcbgagohjjdfeaaW.PrintLast

theorem wrap_next {i : Int} {n : Nat} (h0 : 0 ≤ i) (h : i < (n : Int)) (hn : n ≤ 140737488351232) : wrap64 (i + 1) = i + 1 := by
  unfold wrap64
  omega

theorem same (s : ByteArray) (hn : s.size ≤ 140737488351232) : ∀ (k : Nat) (i : Int), 0 ≤ i → spec_IsName.l0 k s i = impl_IsName.l0 k s (s.size : Int) i := by
  intro k
  induction k with
  | zero => intro i _; rfl
  | succ k ih =>
    intro i h0
    simp only [spec_IsName.l0, impl_IsName.l0]
    by_cases h : i < (s.size : Int)
    · rw [if_pos h, if_pos h, if_pos h0, if_pos h0, if_pos h, wrap_next h0 h hn, ih (i + 1) (by omega)]
    · rw [if_neg h, if_neg h]

theorem ends (s : ByteArray) (hn : s.size ≤ 140737488351232) : ∀ (k : Nat) (i : Int), 0 ≤ i → (s.size : Int) - i < k → 0 < k → ∃ r, spec_IsName.l0 k s i = some r := by
  intro k
  induction k with
  | zero => intro i _ _ h; omega
  | succ k ih =>
    intro i h0 hk _
    simp only [spec_IsName.l0]
    by_cases h : i < (s.size : Int)
    · rw [if_pos h, if_pos h0]
      by_cases h1 : bt s i < 97
      · rw [if_pos h1]; exact ⟨_, rfl⟩
      · rw [if_neg h1]
        by_cases h2 : bt s i > 122
        · rw [if_pos h2]; exact ⟨_, rfl⟩
        · rw [if_neg h2, wrap_next h0 h hn]
          exact ih (i + 1) (by omega) (by omega) (by omega)
    · rw [if_neg h]
      by_cases h1 : (s.size : Int) ≥ 1
      · rw [if_pos h1]; exact ⟨_, rfl⟩
      · rw [if_neg h1]; exact ⟨_, rfl⟩

theorem FnExactIsName : laws_FnExactIsName.Pure := by
  intro s hn
  obtain ⟨r, hr⟩ := ends s hn (s.size + 1) 0 (by omega) (by omega) (by omega)
  refine ⟨s.size + 1, ?_⟩
  unfold laws_FnExactIsName.f spec_IsName.f impl_IsName.f
  rw [← same s hn _ 0 (by omega), hr]
  simp

end Go.Proofs.Ytcbgagohjjdfeaa.Pure
