import Derived.Test.YtlnejaehiangnaaDoorPlLeastServers
import Derived.Test.YtlnejaehiangnaaDoorCmZL
set_option linter.unusedVariables false
namespace Go.Cm
def leastT (a b : ByteArray) : Int × Bool := if ((posR a).2 && (rdRat b.data.toList).2) = true then lsT (posR a).1 (rdRat b.data.toList).1 0 else (0, false)
theorem s_law (a b : ByteArray) (ha : a.size ≤ 1000000) (hb : b.size ≤ 1000000) : S.s_LeastServers (a, (b, ())) = some (leastT a b, ()) := by
  unfold S.s_LeastServers
  exact if_pos ⟨ha, hb⟩
theorem i_law (a b : ByteArray) (ha : a.size ≤ 1000000) (hb : b.size ≤ 1000000) : S.i_LeastServers (a, (b, ())) = some (leastT a b, ()) := by
  unfold S.i_LeastServers P.i_LeastServers S.i_positive S.i_readRat leastT
  dsimp only
  rw [if_pos ha, if_pos (by omega), Option.bind_some, Option.bind_some]
  dsimp only
  have gr := posR_ok (s := a)
  have gm : (rdRat b.data.toList).2 = true → low (rdRat b.data.toList).1 ∧ below 200 (rdRat b.data.toList).1 := fun h => ⟨rdRat_low _ h, (rdRat_ok _ h).2⟩
  cases hf : (posR a).2
  · rfl
  cases hg : (rdRat b.data.toList).2
  · rfl
  obtain ⟨hl, hb, hp⟩ := gr hf
  obtain ⟨ml, mb⟩ := gm hg
  generalize (posR a).1 = r at *
  generalize (rdRat b.data.toList).1 = m at *
  rw [if_neg (by decide), if_neg (by decide), if_pos (by decide)]
  have e : S.i_leastServers (rp B32 r, (rp B32 m, ())) = some (lsT r m 0, ()) := by
    unfold S.i_leastServers
    dsimp only
    rw [if_pos ⟨⟨r, rfl, hl, hb, hp⟩, m, rfl, ml, mb⟩, rv_rp B32_le, rv_rp B32_le]
  show Option.bind (S.i_leastServers (rp B32 r, (rp B32 m, ()))) _ = _
  rw [e, Option.bind_some]
theorem LeastServers_true (x : PTy [PK.ro Kd.str, PK.ro Kd.str]) (h : BdA _ x) (hz : SzA _ x) : ∃ m, S.l_FnExactLeastServers x = some (true, m) := by
  obtain ⟨a, b, q⟩ := x
  obtain ⟨z1, z2, _⟩ := hz
  refine ⟨(), ?_⟩
  show P.l_FnExactLeastServers 0 (a, (b, ())) = some (true, ())
  unfold P.l_FnExactLeastServers
  dsimp only
  have a1 : a.size ≤ reachBytes := z1
  have b1 : b.size ≤ reachBytes := z2
  unfold reachBytes at a1 b1
  rw [wr (by omega) (by omega)]
  by_cases hs : (a.size : Int) + (b.size : Int) > 1000000
  · rw [if_pos (decide_eq_true hs)]
  · rw [if_neg (by simpa using hs), s_law a b (by omega) (by omega), i_law a b (by omega) (by omega), Option.bind_some, Option.bind_some]
    simp
end Go.Cm
