import Derived.Test.YtcbgagohjjdfeaaDoorPlD5
import Derived.Lib.ParseIntBCases
set_option linter.unusedVariables false
namespace Go.Cm
theorem in_i2 (n : Int) : S.i_in (n, -1000000000, 1000000000, ()) = some (inB n, ()) := by
  unfold S.i_in P.i_in inB
  dsimp only
  by_cases h : -1000000000 ≤ n
  · by_cases h' : n ≤ 1000000000 <;> simp [h, h']
  · simp [h]
theorem dec_i2 (n : Int) (h : inB n = true) : S.i_Decimal (n, ()) = some (⟨(Go.Lib.itoa n).toArray⟩, ()) := by
  rw [inB_iff] at h
  unfold S.i_Decimal P.i_Decimal S.strconv_FormatInt
  dsimp only
  rw [if_pos ⟨rfl, by omega, by omega⟩]
  rfl
/-- The digits behind one another, read by the library. -/
theorem parseUintM_dig : ∀ (l : List UInt8) (a : Nat), (∀ c ∈ l, 48 ≤ c.toNat ∧ c.toNat ≤ 57) → a * 10 ^ l.length + 10 ^ l.length ≤ 10 ^ 18 → Go.Lib.parseUintM 18446744073709551615 a l = .ok (l.foldl digStep a) := by
  intro l
  induction l with
  | nil => intro a _ _; rfl
  | cons c r ih =>
    intro a hc hb
    have h0 := hc c (by simp)
    have hp : 1 ≤ 10 ^ r.length := Nat.one_le_pow _ _ (by omega)
    rw [List.length_cons, Nat.pow_succ] at hb
    have e1 : a * (10 ^ r.length * 10) = (a * 10) * 10 ^ r.length := by rw [Nat.mul_comm (10 ^ r.length) 10, Nat.mul_assoc]
    have hd : c.toNat - 48 ≤ 9 := by omega
    have e2 : (a * 10 + (c.toNat - 48)) * 10 ^ r.length + 10 ^ r.length ≤ 10 ^ 18 := by
      rw [Nat.add_mul]
      have : (c.toNat - 48) * 10 ^ r.length ≤ 9 * 10 ^ r.length := Nat.mul_le_mul_right _ hd
      omega
    have e3 : a * 10 + (c.toNat - 48) ≤ (a * 10 + (c.toNat - 48)) * 10 ^ r.length := Nat.le_mul_of_pos_right _ hp
    unfold Go.Lib.parseUintM
    rw [if_pos h0, if_neg (by omega), if_neg (by omega), ih _ (fun d hd => hc d (by simp [hd])) e2, List.foldl_cons]
    unfold digStep
    rw [if_pos h0, Nat.mul_comm a 10]
theorem parse_dec (u : Nat) (h : u ≤ 1000000000) : Go.Lib.parseUintB 64 (Go.Lib.decDigits u) = .ok u := by
  unfold Go.Lib.parseUintB
  rw [if_neg (decDigits_ne u)]
  have hl := decDigits_len10 9 u (by omega)
  have hp : 10 ^ (Go.Lib.decDigits u).length ≤ 10 ^ 10 := Nat.pow_le_pow_right (by omega) (by omega)
  rw [show (2 ^ 64 - 1 : Nat) = 18446744073709551615 by decide, parseUintM_dig _ 0 (decDigits_all u) (by omega)]
  exact congrArg _ (digVal_dec u)
theorem parse_itoa (n : Int) (h : inB n = true) : Go.Lib.parseIntB 64 (Go.Lib.itoa n) = .ok n := by
  rw [inB_iff] at h
  unfold Go.Lib.itoa
  split
  · unfold Go.Lib.parseIntB
    dsimp only
    rw [if_pos (by simp), parse_dec _ (by omega)]
    dsimp only
    rw [if_neg (fun q => q.1 (by simp)), if_neg (fun q => absurd q.2 (by simp; omega)), if_pos (by simp)]
    congr 1
    omega
  · rename_i hn
    match hd : Go.Lib.decDigits n.toNat, decDigits_ne n.toNat with
    | c :: r, _ =>
      have hc := decDigits_all n.toNat c (by rw [hd]; simp)
      unfold Go.Lib.parseIntB
      dsimp only
      rw [if_neg (by omega), ← hd, parse_dec _ (by omega)]
      dsimp only
      rw [if_neg (fun q => absurd q.2 (by simp; omega)), if_neg (fun q => by omega), if_neg (by omega)]
      congr 1
      omega
theorem rdI_eq (s : ByteArray) (h : s.size ≤ 1000000) : S.i_ReadDecimal (s, ()) = some (rdNum s.data.toList, ()) := by
  unfold S.i_ReadDecimal P.i_ReadDecimal S.strconv_ParseInt
  dsimp only
  rw [if_pos ⟨rfl, rfl, by omega⟩, Option.bind_some]
  have none : (∀ v, Go.Lib.parseIntB 64 s.data.toList ≠ .ok v) → rdNum s.data.toList = (0, false) := by
    intro hv
    apply rdNum_none
    intro n hn he
    exact hv n (by rw [← he, parse_itoa n hn])
  cases hp : Go.Lib.parseIntB 64 s.data.toList with
  | ok v =>
    dsimp only
    rw [if_neg (by simp), in_i2, Option.bind_some]
    dsimp only
    have uniq : ∀ n, inB n = true → Go.Lib.itoa n = s.data.toList → n = v := by
      intro n hn he
      have := parse_itoa n hn
      rw [he, hp] at this
      cases this
      rfl
    cases hq : inB v
    · rw [if_pos (by simp), rdNum_none]
      intro n hn he
      have := uniq n hn he
      subst this
      rw [hq] at hn
      cases hn
    · rw [if_neg (by simp), dec_i2 v hq, Option.bind_some]
      dsimp only
      rw [ByteArray.toList_eq, ByteArray.toList_eq]
      by_cases he : Go.Lib.itoa v = s.data.toList
      · rw [if_neg (by simp [he]), ← he, rdNum_itoa v hq]
      · rw [if_pos (by simp [he]), rdNum_none]
        intro n hn he'
        have := uniq n hn he'
        subst this
        exact he he'
  | «syntax» =>
    dsimp only
    rw [if_pos rfl, none (by simp [hp])]
  | range =>
    dsimp only
    rw [if_pos rfl, none (by simp [hp])]
theorem ReadDecimal_true (x : PTy [PK.ro Kd.str]) (h : BdA _ x) : ∃ m, S.l_FnExactReadDecimal x = some (true, m) := by
  obtain ⟨s, q⟩ := x
  refine ⟨(), ?_⟩
  show P.l_FnExactReadDecimal 0 (s, ()) = some (true, ())
  unfold P.l_FnExactReadDecimal
  dsimp only
  by_cases hl : s.size ≤ 1000000
  · rw [if_neg (by simp; omega)]
    rw [show S.s_ReadDecimal (s, ()) = some (rdNum s.data.toList, ()) from rfl, rdI_eq s hl]
    simp
  · rw [if_pos (decide_eq_true (by omega))]
end Go.Cm
