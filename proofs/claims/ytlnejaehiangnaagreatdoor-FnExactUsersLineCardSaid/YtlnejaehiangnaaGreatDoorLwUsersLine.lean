import Derived.Test.YtlnejaehiangnaaGreatDoorPlUsersLine
import Derived.Test.YtlnejaehiangnaaGreatDoorCmZL
set_option linter.unusedVariables false
namespace Go.Cm
theorem splice_own {α : Type} (xs ys : List α) (h : ys.length = xs.length) : splice xs ys 0 = ys := by
  unfold splice
  simp [h]
theorem eqS_refl (xs : List ByteArray) (h : xs.length ≤ 1000000) : S.l_eqStringS (xs, (xs, ())) = some (true, ()) := by
  unfold S.l_eqStringS
  dsimp only
  rw [if_pos (by omega), eqTexts_refl]
theorem mkS (xs : List ByteArray) (q : Int) (h0 : 0 ≤ q) (hq : q ≤ 10000000) (h : xs.length ≤ 1000000) : S.l_markStringS (xs, (q, ())) = some (q + (xs.length : Int), (marks q xs.length, ())) := by
  unfold S.l_markStringS
  dsimp only
  rw [if_pos ⟨by omega, by omega, by omega⟩]
theorem hdS (n : Nat) (q : Int) (h0 : 0 ≤ q) (hq : q ≤ 10000000) (h : n ≤ 1000000) : S.l_heldStringS (marks q n, (q, ())) = some (q + (n : Int), ()) := by
  unfold S.l_heldStringS
  dsimp only
  rw [marks_len, if_pos ⟨by omega, by omega, by omega, rfl⟩]
theorem eqL_refl (a b : List ByteArray) (ha : a.length ≤ 1000000) (hb : b.length ≤ 1000000) : S.l_eqLine ((a, b), ((a, b), ())) = some (true, ()) := by
  unfold S.l_eqLine P.l_eqLine
  dsimp only
  rw [eqS_refl a ha, eqS_refl b hb]
  rfl
theorem heL (a b : Nat) (ha : a ≤ 1000000) (hb : b ≤ 1000000) : S.l_heldLine ((marks 101 a, marks (101 + (a : Int)) b), (101, ())) = some (101 + (a : Int) + (b : Int), ()) := by
  unfold S.l_heldLine P.l_heldLine
  dsimp only
  rw [hdS a 101 (by omega) (by omega) ha, Option.bind_some]
  dsimp only
  rw [if_neg (by simp; omega), hdS b _ (by omega) (by omega) hb, Option.bind_some]
  dsimp only
  rw [if_neg (by simp; omega)]
theorem mkL (a b : List ByteArray) (ha : a.length ≤ 1000000) (hb : b.length ≤ 1000000) : S.l_markLine (a, (b, (101, ()))) = some (101 + (a.length : Int) + (b.length : Int), (marks 101 a.length, (marks (101 + (a.length : Int)) b.length, ()))) := by
  unfold S.l_markLine P.l_markLine
  dsimp only
  rw [mkS a 101 (by omega) (by omega) ha, Option.bind_some]
  dsimp only
  rw [mkS b _ (by omega) (by omega) hb, Option.bind_some]
  dsimp only
  rw [splice_own _ _ (marks_len _ _), splice_own _ _ (marks_len _ _)]
theorem giveP_len (us ds : List Q3) : (giveP us ds).1.1.length ≤ us.length ∧ (giveP us ds).1.2.length ≤ ds.length := by
  have key : ∀ qs : List Q3, (giveL qs).1.length ≤ qs.length := by
    intro qs
    unfold giveL
    split
    · simp
    · simp
  unfold giveP
  split
  · exact ⟨key us, key ds⟩
  · simp
theorem text_len (users servers : Int) (a b : ByteArray) : (usersT users servers a b).1.1.length ≤ 20 ∧ (usersT users servers a b).1.2.length ≤ 20 := by
  unfold usersT
  split
  · rename_i hc
    simp only [Bool.and_eq_true, decide_eq_true_iff] at hc
    have hg := giveP_len (usrL (posR a).1 users.toNat) (srvL (posR b).1 servers users.toNat)
    have l1 : (usrL (posR a).1 users.toNat).length = users.toNat := by simp [usrL]
    have l2 : (srvL (posR b).1 servers users.toNat).length = users.toNat := by simp [srvL]
    rw [l1, l2] at hg
    omega
  · simp
theorem s_law (users servers : Int) (a b : ByteArray) (ha : a.size ≤ 1000000) (hb : b.size ≤ 1000000) : S.s_UsersLine (users, (servers, (a, (b, ())))) = some (usersT users servers a b, ()) := by
  unfold S.s_UsersLine
  exact if_pos ⟨ha, hb⟩
theorem i_law (users servers : Int) (a b : ByteArray) (ha : a.size ≤ 1000000) (hb : b.size ≤ 1000000) : S.i_UsersLine (users, (servers, (a, (b, ())))) = some (usersT users servers a b, ()) := by
  unfold S.i_UsersLine
  exact if_pos ⟨ha, hb⟩
theorem UsersLine_true (x : PTy [PK.ro (Kd.int IntKind.i64), PK.ro (Kd.int IntKind.i64), PK.ro Kd.str, PK.ro Kd.str]) (h : BdA _ x) (hz : SzA _ x) : ∃ m, S.l_FnExactUsersLine x = some (true, m) := by
  obtain ⟨users, servers, a, b, q⟩ := x
  obtain ⟨_, _, z1, z2, _⟩ := hz
  refine ⟨(), ?_⟩
  show P.l_FnExactUsersLine 0 (users, (servers, (a, (b, ())))) = some (true, ())
  unfold P.l_FnExactUsersLine
  dsimp only
  have a1 : a.size ≤ reachBytes := z1
  have b1 : b.size ≤ reachBytes := z2
  unfold reachBytes at a1 b1
  rw [wr (by omega) (by omega)]
  by_cases hs : (a.size : Int) + (b.size : Int) > 1000000
  · rw [if_pos (decide_eq_true hs)]
  · rw [if_neg (by simpa using hs), s_law users servers a b (by omega) (by omega), i_law users servers a b (by omega) (by omega)]
    simp only [Option.bind_some]
    have hl := text_len users servers a b
    generalize usersT users servers a b = y at hl ⊢
    obtain ⟨⟨g1, g2⟩, f⟩ := y
    dsimp only at hl ⊢
    rw [eqL_refl g1 g2 (by omega) (by omega), mkL g1 g2 (by omega) (by omega)]
    simp only [Option.bind_some]
    rw [splice_own _ _ (marks_len _ _), splice_own _ _ (marks_len _ _), heL _ _ (by omega) (by omega)]
    simp only [Option.bind_some]
    have e6 : ¬ (101 + (g1.length : Int) + (g2.length : Int) < 0) := by omega
    simp [e6]
end Go.Cm
