import Derived.Test.YtpjojckfnkomfaaGreatDoorPlPlacesOf
import Derived.Test.YtpjojckfnkomfaaGreatDoorCmZL
set_option linter.unusedVariables false
namespace Go.Cm
theorem i_law (a : ByteArray) (n' : Int) (hsz0 : a.size ≤ 1000000) : S.i_PlacesOf (a, (n', ())) = some (if (rdRat a.data.toList).2 = true ∧ 0 ≤ n' ∧ n' ≤ 30 then (⟨(plcT n'.toNat (rdRat a.data.toList).1.1 (sizeQ (rdRat a.data.toList).1 n'.toNat).2.1).toArray⟩, true) else (bs [], false), ()) := by
  unfold S.i_PlacesOf P.i_PlacesOf S.i_readRat
  dsimp only
  rw [if_pos (by omega), Option.bind_some]
  dsimp only
  have ga : (rdRat a.data.toList).2 = true → low (rdRat a.data.toList).1 ∧ below 200 (rdRat a.data.toList).1 := fun h => ⟨rdRat_low _ h, (rdRat_ok _ h).2⟩
  generalize rdRat a.data.toList = X at *
  obtain ⟨X, fx⟩ := X
  dsimp only at *
  cases fx
  · have hn : ¬ ((false : Bool) = true ∧ 0 ≤ n' ∧ n' ≤ 30) := fun z => by cases z.1
    rw [if_neg hn]
    rfl
  obtain ⟨lx, bx⟩ := ga rfl
  rw [if_neg (show ¬ ((!true) = true) by decide)]
  have hin : S.i_in (n', (0, (30, ()))) = some (decide (0 ≤ n' ∧ n' ≤ 30), ()) := by
    unfold S.i_in P.i_in
    dsimp only
    by_cases h : n' ≥ 0
    · by_cases h' : n' ≤ 30 <;> simp [h, h']
    · have h2 : ¬ (0 ≤ n') := by omega
      rw [if_neg (by simpa using h), decide_eq_false (fun z => h2 z.1)]
  rw [hin, Option.bind_some]
  dsimp only
  by_cases hc : 0 ≤ n' ∧ n' ≤ 30
  · obtain ⟨n, rfl⟩ : ∃ n : Nat, n' = (n : Int) := ⟨n'.toNat, by omega⟩
    rw [decide_eq_true hc, if_neg (show ¬ ((!true) = true) by decide), if_pos (show true = true ∧ 0 ≤ (n : Int) ∧ (n : Int) ≤ 30 from ⟨rfl, hc⟩), Int.toNat_natCast]
    have hx := lowb_rp (B := B32) (N := 100000) (by decide) (absQ_low lx) (n := 200) bx (by decide)
    have h10 : below 200 (wholeQ 10) := wholeQ_below (by decide) (by decide)
    have hp : S.i_rat_power (rp B32 (wholeQ 10), ((n : Int), ())) = some (rp B32 (powQ (wholeQ 10) n), ()) := by
      unfold S.i_rat_power
      dsimp only
      rw [rv_rp B32_le, if_pos ⟨lowb_rp (by decide) (wholeQ_low 10) h10 (by decide), h10.1, h10.2, by omega, by omega⟩, Int.toNat_natCast]
    have hpb := powQ_below (wholeQ 10) 200 n h10
    have hpl := powQ_low (wholeQ 10) (wholeQ_low 10) n
    have hm : S.i_rat_mul (rp B32 (absQ X), (rp B32 (powQ (wholeQ 10) n), ())) = some (rp B32 (mulQ (absQ X) (powQ (wholeQ 10) n)), ()) := by
      unfold S.i_rat_mul
      dsimp only
      rw [if_pos ⟨hx, lowb_rp (by decide) hpl hpb (by omega)⟩, rv_rp B32_le, rv_rp B32_le]
    have hmb : below (200 + (200 * n + 1)) (mulQ (absQ X) (powQ (wholeQ 10) n)) := mulQ_below (x := absQ X) bx hpb
    have hml := mulQ_low (absQ X) (powQ (wholeQ 10) n) (absQ_low lx) hpl
    have hhb : below 1 (lowN false 1 2) := lowN_below false (by decide) (by decide)
    have hhl : low (lowN false 1 2) := lowN_low false (by decide)
    have ha : S.i_rat_add (rp B32 (mulQ (absQ X) (powQ (wholeQ 10) n)), (rp B32 (lowN false 1 2), ())) = some (rp B32 (addQ (mulQ (absQ X) (powQ (wholeQ 10) n)) (lowN false 1 2)), ()) := by
      unfold S.i_rat_add
      dsimp only
      rw [if_pos ⟨lowb_rp (by decide) hml hmb (by omega), lowb_rp (by decide) hhl hhb (by decide)⟩, rv_rp B32_le, rv_rp B32_le]
    have hab := addQ_below hmb hhb
    have hal := addQ_low _ _ hml hhl
    have hf : S.i_rat_floor (rp B32 (addQ (mulQ (absQ X) (powQ (wholeQ 10) n)) (lowN false 1 2)), ()) = some (rp B32 (sizeQ X n), ()) := by
      unfold S.i_rat_floor
      dsimp only
      rw [if_pos (lowb_rp (by decide) hal hab (by omega)), rv_rp B32_le]
      rfl
    obtain ⟨em, hem⟩ : ∃ em : Nat, em = 10000 := ⟨_, rfl⟩
    have hsz : (sizeQ X n).2.1 < 10 ^ em := by
      have h1 : (sizeQ X n).2.1 = (addQ (mulQ (absQ X) (powQ (wholeQ 10) n)) (lowN false 1 2)).2.1 / (addQ (mulQ (absQ X) (powQ (wholeQ 10) n)) (lowN false 1 2)).2.2 := by
        show _ + _ = _
        rw [addQ_pos _ _ (mulQ_pos _ _ rfl (powQ_pos _ rfl n)) rfl, if_neg (fun z => by cases z.1), Nat.add_zero]
      rw [h1]
      have h2 : (addQ (mulQ (absQ X) (powQ (wholeQ 10) n)) (lowN false 1 2)).2.1 < 10 ^ em := Nat.lt_of_lt_of_le hab.1 (Nat.pow_le_pow_right (by decide) (by omega))
      exact Nat.lt_of_le_of_lt (Nat.div_le_self _ _) h2
    have hlen : (nd B32 (sizeQ X n).2.1).length ≤ em := (nd_len B32_le _ _).2 (Nat.lt_of_lt_of_le hsz (Nat.pow_le_pow_left (by decide) _))
    have ht : S.i_nat_text (nd B32 (sizeQ X n).2.1, ()) = some (⟨(Go.Lib.decDigits (sizeQ X n).2.1).toArray⟩, ()) := by
      unfold S.i_nat_text
      dsimp only
      rw [if_pos ⟨canon_nd B32_le _, by omega⟩, dval_nd B32_le]
    have hD := canon_dec (show B32 ≤ 10 ^ 10 by decide) (canon_nd B32_le (sizeQ X n).2.1)
    rw [dval_nd B32_le] at hD
    have hD' : (Go.Lib.decDigits (sizeQ X n).2.1).length ≤ 100001 := by omega
    have hk : S.i_lowest (false, (nd B32 1, (nd B32 2, ()))) = some (rp B32 (lowN false 1 2), ()) := by
      unfold S.i_lowest
      dsimp only
      rw [if_pos ⟨canon_nd B32_le 1, canon_nd B32_le 2, by rw [nd_two (B := B32) (by decide)]; decide, by rw [nd_one B32_le]; decide, by rw [nd_two (B := B32) (by decide)]; decide⟩, dval_nd B32_le, dval_nd B32_le]
    have hw : S.i_whole (10, ()) = some (rp B32 (wholeQ 10), ()) := by rfl
    have hn1 : S.i_natOf (1, ()) = some (nd B32 1, ()) := by rfl
    have hn2 : S.i_natOf (2, ()) = some (nd B32 2, ()) := by rfl
    have hs : S.i_rat_sign (((rp B32 (sizeQ X n)).1, ((rp B32 (sizeQ X n)).2.1, (rp B32 (sizeQ X n)).2.2)), ()) = some (if (sizeQ X n).2.1 = 0 then 0 else 1, ()) := by
      unfold S.i_rat_sign
      show (if canon B32 (nd B32 (sizeQ X n).2.1) = true then some (sgnQ (sizeQ X n).1 (dval B32 (nd B32 (sizeQ X n).2.1)), ()) else none) = _
      rw [if_pos (canon_nd B32_le _), dval_nd B32_le, sizeQ_pos]
      unfold sgnQ
      rw [if_neg (show ¬ ((false : Bool) = true) by decide)]
    rw [hw, Option.bind_some]
    show Option.bind (S.i_rat_power (rp B32 (wholeQ 10), ((n : Int), ()))) _ = _
    rw [hp, Option.bind_some]
    show Option.bind (S.i_rat_mul (rp B32 (absQ X), (rp B32 (powQ (wholeQ 10) n), ()))) _ = _
    rw [hm, Option.bind_some, hn1, Option.bind_some, hn2, Option.bind_some]
    dsimp only
    rw [hk, Option.bind_some]
    show Option.bind (S.i_rat_add (rp B32 (mulQ (absQ X) (powQ (wholeQ 10) n)), (rp B32 (lowN false 1 2), ()))) _ = _
    rw [ha, Option.bind_some]
    show Option.bind (S.i_rat_floor (rp B32 (addQ (mulQ (absQ X) (powQ (wholeQ 10) n)) (lowN false 1 2)), ())) _ = _
    rw [hf, Option.bind_some]
    dsimp only
    rw [show (rp B32 (sizeQ X n)).2.1 = nd B32 (sizeQ X n).2.1 from rfl] at hs ⊢
    rw [ht, Option.bind_some]
    dsimp only
    generalize hDD : Go.Lib.decDigits (sizeQ X n).2.1 = D at *
    obtain ⟨p1, p2⟩ := padT_len n D
    generalize hTT : padT n D = T at *
    have elack : Go.IntKind.wrap Go.IntKind.i64 (Go.IntKind.wrap Go.IntKind.i64 ((n : Int) + 1) - ((ByteArray.size ⟨D.toArray⟩ : Nat) : Int)) = (n : Int) + 1 - (D.length : Int) := by
      rw [ba_sz, wr (x := (n : Int) + 1) (by omega) (by omega), wr (by omega) (by omega)]
    rw [elack]
    by_cases hlack : (n : Int) + 1 - (D.length : Int) > 0
    · rw [if_pos (decide_eq_true hlack)]
      have hr : S.strings_Repeat (bs [48], ((n : Int) + 1 - (D.length : Int), ())) = some (⟨(List.replicate (n + 1 - D.length) 48).toArray⟩, ()) := by
        unfold S.strings_Repeat
        dsimp only
        rw [if_pos ⟨by omega, by omega, by decide⟩, show (bs [48]).data.toList = [48] from rfl, repeatL_one, show ((n : Int) + 1 - (D.length : Int)).toNat = n + 1 - D.length by omega]
      have hcat : (⟨(List.replicate (n + 1 - D.length) 48).toArray⟩ : ByteArray) ++ ⟨D.toArray⟩ = ⟨T.toArray⟩ := by
        rw [ba_app, ← hTT]
        rfl
      rw [hr, Option.bind_some]
      dsimp only
      rw [hcat, if_pos (decide_eq_true (by rw [ba_sz, ba_sz, List.length_replicate]; omega)), ba_sz]
      have ew : Go.IntKind.wrap Go.IntKind.i64 ((T.length : Int) - (n : Int)) = ((T.length - n : Nat) : Int) := by rw [wr (by omega) (by omega)]; omega
      rw [ew]
      have e1 : (0 : Int) ≤ ((T.length - n : Nat) : Int) := by omega
      have e2 : ((T.length - n : Nat) : Int) ≤ (T.length : Int) := by omega
      have e3 : (0 : Int) ≤ (T.length : Int) := by omega
      have l1 : (T.take (T.length - n)).length = T.length - n := by rw [List.length_take]; omega
      have l2 : (T.drop (T.length - n)).length = n := by rw [List.length_drop]; omega
      rw [Int.toNat_natCast, Int.toNat_natCast, ba_ext, ba_ext, List.drop_zero, List.take_length, show bs [46] = ⟨([46] : List UInt8).toArray⟩ from rfl, show bs [45] = ⟨([45] : List UInt8).toArray⟩ from rfl]
      simp only [ba_app, ba_sz, List.length_append, List.length_cons, List.length_nil, l1, l2]
      have c0 : 1 + T.length ≤ 9223372036854775807 := by omega
      have c1 : T.length - n + 1 ≤ 9223372036854775807 := by omega
      have c3 : T.length - n + (0 + 1) + n ≤ 9223372036854775807 := by omega
      have c4 : 1 + (T.length - n + (0 + 1) + n) ≤ 9223372036854775807 := by omega
      unfold plcT
      rw [hDD, hTT]
      by_cases h0 : 0 < n
      · have h0' : (n : Int) > 0 := by omega
        rw [if_pos (decide_eq_true h0'), if_pos h0]
        simp only [e1, e2, e3, c1, c3, c4, decide_true, if_true, Int.le_refl]
        rw [show (rp B32 X).1 = X.1 from rfl]
        cases hneg : X.1
        · simp
        · rw [if_pos rfl, hs, Option.bind_some]
          dsimp only
          by_cases hz : (sizeQ X n).2.1 = 0
          · rw [if_pos hz, if_neg (by decide)]
            simp [hz]
          · rw [if_neg hz, if_pos (by decide)]
            simp [hz]
      · have h0' : ¬ ((n : Int) > 0) := by omega
        rw [if_neg (by simpa using h0'), if_neg h0]
        simp only [c0, decide_true, if_true]
        rw [show (rp B32 X).1 = X.1 from rfl]
        cases hneg : X.1
        · simp
        · rw [if_pos rfl, hs, Option.bind_some]
          dsimp only
          by_cases hz : (sizeQ X n).2.1 = 0
          · rw [if_pos hz, if_neg (by decide)]
            simp [hz]
          · rw [if_neg hz, if_pos (by decide)]
            simp [hz]
    · rw [if_neg (by simpa using hlack)]
      have hT : T = D := by
        rw [← hTT]
        unfold padT
        rw [show n + 1 - D.length = 0 by omega]
        rfl
      rw [← hT] at hDD hTT ⊢
      rw [ba_sz]
      have ew : Go.IntKind.wrap Go.IntKind.i64 ((T.length : Int) - (n : Int)) = ((T.length - n : Nat) : Int) := by rw [wr (by omega) (by omega)]; omega
      rw [ew]
      have e1 : (0 : Int) ≤ ((T.length - n : Nat) : Int) := by omega
      have e2 : ((T.length - n : Nat) : Int) ≤ (T.length : Int) := by omega
      have e3 : (0 : Int) ≤ (T.length : Int) := by omega
      have l1 : (T.take (T.length - n)).length = T.length - n := by rw [List.length_take]; omega
      have l2 : (T.drop (T.length - n)).length = n := by rw [List.length_drop]; omega
      rw [Int.toNat_natCast, Int.toNat_natCast, ba_ext, ba_ext, List.drop_zero, List.take_length, show bs [46] = ⟨([46] : List UInt8).toArray⟩ from rfl, show bs [45] = ⟨([45] : List UInt8).toArray⟩ from rfl]
      simp only [ba_app, ba_sz, List.length_append, List.length_cons, List.length_nil, l1, l2]
      have c0 : 1 + T.length ≤ 9223372036854775807 := by omega
      have c1 : T.length - n + 1 ≤ 9223372036854775807 := by omega
      have c3 : T.length - n + (0 + 1) + n ≤ 9223372036854775807 := by omega
      have c4 : 1 + (T.length - n + (0 + 1) + n) ≤ 9223372036854775807 := by omega
      unfold plcT
      rw [hDD, hTT]
      by_cases h0 : 0 < n
      · have h0' : (n : Int) > 0 := by omega
        rw [if_pos (decide_eq_true h0'), if_pos h0]
        simp only [e1, e2, e3, c1, c3, c4, decide_true, if_true, Int.le_refl]
        rw [show (rp B32 X).1 = X.1 from rfl]
        cases hneg : X.1
        · simp
        · rw [if_pos rfl, hs, Option.bind_some]
          dsimp only
          by_cases hz : (sizeQ X n).2.1 = 0
          · rw [if_pos hz, if_neg (by decide)]
            simp [hz]
          · rw [if_neg hz, if_pos (by decide)]
            simp [hz]
      · have h0' : ¬ ((n : Int) > 0) := by omega
        rw [if_neg (by simpa using h0'), if_neg h0]
        simp only [c0, decide_true, if_true]
        rw [show (rp B32 X).1 = X.1 from rfl]
        cases hneg : X.1
        · simp
        · rw [if_pos rfl, hs, Option.bind_some]
          dsimp only
          by_cases hz : (sizeQ X n).2.1 = 0
          · rw [if_pos hz, if_neg (by decide)]
            simp [hz]
          · rw [if_neg hz, if_pos (by decide)]
            simp [hz]
  · have hn : ¬ ((true : Bool) = true ∧ 0 ≤ n' ∧ n' ≤ 30) := fun z => hc z.2
    rw [decide_eq_false hc, if_pos (show (!false) = true by rfl), if_neg hn]
theorem PlacesOf_true (x : PTy [PK.ro Kd.str, PK.ro (Kd.int IntKind.i64)]) (h : BdA _ x) (hz : SzA _ x) : ∃ m, S.l_FnExactPlacesOf x = some (true, m) := by
  obtain ⟨a, n, q⟩ := x
  refine ⟨(), ?_⟩
  show P.l_FnExactPlacesOf 0 (a, (n, ())) = some (true, ())
  unfold P.l_FnExactPlacesOf
  dsimp only
  by_cases hs : (a.size : Int) > 1000000
  · rw [if_pos (decide_eq_true hs)]
  · have e1 : S.s_PlacesOf (a, (n, ())) = some (if (rdRat a.data.toList).2 = true ∧ 0 ≤ n ∧ n ≤ 30 then (⟨(plcT n.toNat (rdRat a.data.toList).1.1 (sizeQ (rdRat a.data.toList).1 n.toNat).2.1).toArray⟩, true) else (bs [], false), ()) := by
      unfold S.s_PlacesOf
      exact if_pos (by dsimp only; omega)
    rw [if_neg (by simpa using hs), e1, i_law a n (by omega), Option.bind_some, Option.bind_some]
    simp
end Go.Cm
