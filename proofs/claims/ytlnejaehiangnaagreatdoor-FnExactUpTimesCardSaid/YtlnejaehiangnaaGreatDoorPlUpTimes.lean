import Derived.Test.YtlnejaehiangnaaGreatDoorPlUpTimesc
set_option linter.unusedVariables false
set_option maxRecDepth 100000
noncomputable section
namespace Go.Cm
def P.i_rat_add (k : Nat) (x : ((Bool × ((List Int) × (List Int))) × ((Bool × ((List Int) × (List Int))) × Unit))) : (Option ((Bool × ((List Int) × (List Int))) × Unit)) :=
 (Option.bind (S.i_rat_sign ((x.1.1 , (x.1.2.1 , x.1.2.2)) , ())) (fun (y0 : (Int × Unit)) => (if ((y0.1 == (0 : Int)) = true) then (some ((x.2.1.1 , (x.2.1.2.1 , x.2.1.2.2)) , ()))
 else (Option.bind (S.i_rat_sign ((x.2.1.1 , (x.2.1.2.1 , x.2.1.2.2)) , ())) (fun (y1 : (Int × Unit)) => (if ((y1.1 == (0 : Int)) = true) then (some ((x.1.1 , (x.1.2.1 , x.1.2.2)) , ()))
 else (Option.bind (S.i_nat_cmp (x.1.2.2 , (x.2.1.2.2 , ()))) (fun (y2 : (Int × Unit)) => (if ((y2.1 != (0 : Int)) = true) then (Option.bind (S.i_nat_mul (x.1.2.1 , (x.2.1.2.2 , ()))) (fun (y3 : ((List Int) × Unit)) => (Option.bind (S.i_nat_mul (x.2.1.2.1 , (x.1.2.2 , ()))) (fun (y4 : ((List Int) × Unit)) => (Option.bind (S.i_nat_mul (x.1.2.2 , (x.2.1.2.2 , ()))) (fun (y5 : ((List Int) × Unit)) => (if ((x.1.1 == x.2.1.1) = true) then (Option.bind (S.i_nat_add (y3.1 , (y4.1 , ()))) (fun (y6 : ((List Int) × Unit)) => (Option.bind (S.i_lowest (x.1.1 , (y6.1 , (y5.1 , ())))) (fun (y7 : ((Bool × ((List Int) × (List Int))) × Unit)) => (some ((y7.1.1 , (y7.1.2.1 , y7.1.2.2)) , ()))))))
 else (Option.bind (S.i_nat_cmp (y3.1 , (y4.1 , ()))) (fun (y8 : (Int × Unit)) => (if ((decide (y8.1 ≥ (0 : Int))) = true) then (Option.bind (S.i_nat_sub (y3.1 , (y4.1 , ()))) (fun (y9 : ((List Int) × Unit)) => (Option.bind (S.i_lowest (x.1.1 , (y9.1 , (y5.1 , ())))) (fun (y10 : ((Bool × ((List Int) × (List Int))) × Unit)) => (some ((y10.1.1 , (y10.1.2.1 , y10.1.2.2)) , ()))))))
 else (Option.bind (S.i_nat_sub (y4.1 , (y3.1 , ()))) (fun (y11 : ((List Int) × Unit)) => (Option.bind (S.i_lowest (x.2.1.1 , (y11.1 , (y5.1 , ())))) (fun (y12 : ((Bool × ((List Int) × (List Int))) × Unit)) => (some ((y12.1.1 , (y12.1.2.1 , y12.1.2.2)) , ()))))))))))))))))
 else (if ((x.1.1 == x.2.1.1) = true) then (Option.bind (S.i_nat_add (x.1.2.1 , (x.2.1.2.1 , ()))) (fun (y13 : ((List Int) × Unit)) => (Option.bind (S.i_lowest (x.1.1 , (y13.1 , (x.1.2.2 , ())))) (fun (y14 : ((Bool × ((List Int) × (List Int))) × Unit)) => (some ((y14.1.1 , (y14.1.2.1 , y14.1.2.2)) , ()))))))
 else (Option.bind (S.i_nat_cmp (x.1.2.1 , (x.2.1.2.1 , ()))) (fun (y15 : (Int × Unit)) => (if ((decide (y15.1 ≥ (0 : Int))) = true) then (Option.bind (S.i_nat_sub (x.1.2.1 , (x.2.1.2.1 , ()))) (fun (y16 : ((List Int) × Unit)) => (Option.bind (S.i_lowest (x.1.1 , (y16.1 , (x.1.2.2 , ())))) (fun (y17 : ((Bool × ((List Int) × (List Int))) × Unit)) => (some ((y17.1.1 , (y17.1.2.1 , y17.1.2.2)) , ()))))))
 else (Option.bind (S.i_nat_sub (x.2.1.2.1 , (x.1.2.1 , ()))) (fun (y18 : ((List Int) × Unit)) => (Option.bind (S.i_lowest (x.2.1.1 , (y18.1 , (x.1.2.2 , ())))) (fun (y19 : ((Bool × ((List Int) × (List Int))) × Unit)) => (some ((y19.1.1 , (y19.1.2.1 , y19.1.2.2)) , ())))))))))))))))))))
theorem ra_mul (p q : Nat) (hp : (nd B32 p).length ≤ 1000000) (hq : (nd B32 q).length ≤ 1000000) : S.i_nat_mul (nd B32 p, (nd B32 q, ())) = some (nd B32 (p * q), ()) := by
  unfold S.i_nat_mul
  dsimp only
  rw [if_pos ⟨dig_nd B32_le _, dig_nd B32_le _, by omega, by omega⟩, dval_nd B32_le, dval_nd B32_le]
theorem ra_add (p q : Nat) (hp : (nd B32 p).length ≤ 1000000) (hq : (nd B32 q).length ≤ 1000000) : S.i_nat_add (nd B32 p, (nd B32 q, ())) = some (nd B32 (p + q), ()) := by
  unfold S.i_nat_add
  dsimp only
  rw [if_pos ⟨dig_nd B32_le _, dig_nd B32_le _, by omega, by omega⟩, dval_nd B32_le, dval_nd B32_le]
theorem ra_sub (p q : Nat) (hp : (nd B32 p).length ≤ 1000000) (h : q ≤ p) : S.i_nat_sub (nd B32 p, (nd B32 q, ())) = some (nd B32 (p - q), ()) := by
  unfold S.i_nat_sub
  dsimp only
  rw [dval_nd B32_le, dval_nd B32_le, if_pos ⟨dig_nd B32_le _, dig_nd B32_le _, nd_shorter' B32_le h, h, by omega⟩]
theorem ra_cmp (p q : Nat) (hp : (nd B32 p).length ≤ 1000000) : S.i_nat_cmp (nd B32 p, (nd B32 q, ())) = some (cmpN p q, ()) := by
  unfold S.i_nat_cmp
  dsimp only
  rw [if_pos ⟨canon_nd B32_le _, canon_nd B32_le _, by omega⟩, dval_nd B32_le, dval_nd B32_le]
theorem ra_low (n : Bool) (p q : Nat) (hp : (nd B32 p).length ≤ 1000000) (hq : (nd B32 q).length ≤ 1000000) (h0 : q ≠ 0) : S.i_lowest (n, (nd B32 p, (nd B32 q, ()))) = some (rp B32 (lowN n p q), ()) := by
  unfold S.i_lowest
  dsimp only
  rw [if_pos ⟨canon_nd B32_le _, canon_nd B32_le _, nd_ne B32_le h0, by omega, by omega⟩, dval_nd B32_le, dval_nd B32_le]
theorem ra_sign (n : Bool) (p : Nat) (bs : List Int) : S.i_rat_sign ((n, (nd B32 p, bs)), ()) = some (sgnQ n p, ()) := by
  unfold S.i_rat_sign
  dsimp only
  rw [if_pos (canon_nd B32_le _), dval_nd B32_le]
def S.i_rat_add (x : ((Bool × ((List Int) × (List Int))) × ((Bool × ((List Int) × (List Int))) × Unit))) : (Option ((Bool × ((List Int) × (List Int))) × Unit)) := if lowb B32 100000 x.1 = true ∧ lowb B32 100000 x.2.1 = true then some (rp B32 (addQ (rv B32 x.1) (rv B32 x.2.1)), ()) else none
theorem S.i_rat_add_ok (x : ((Bool × ((List Int) × (List Int))) × ((Bool × ((List Int) × (List Int))) × Unit))) (r : _) (h : S.i_rat_add x = some r) : ∃ k, P.i_rat_add k x = some r := by
  obtain ⟨x, y, u⟩ := x
  unfold S.i_rat_add at h
  dsimp only at h
  split at h
  case isFalse => cases h
  rename_i hc
  obtain ⟨hx, hy⟩ := hc
  cases h
  rw [lowb_iff] at hx hy
  obtain ⟨hx, lx⟩ := hx
  obtain ⟨hy, ly⟩ := hy
  obtain ⟨n1, p1, q1, rfl, x1, x2⟩ := rok_nd hx
  obtain ⟨n2, p2, q2, rfl, y1, y2⟩ := rok_nd hy
  rw [rv_nd B32_le] at lx ly ⊢
  rw [rv_nd B32_le]
  have hq1 : q1 ≠ 0 := by have : 0 < q1 := lx.1; omega
  have hq2 : q2 ≠ 0 := by have : 0 < q2 := ly.1; omega
  refine ⟨0, ?_⟩
  unfold P.i_rat_add
  dsimp only
  rw [ra_sign, Option.bind_some]
  dsimp only
  by_cases h1 : p1 = 0
  · rw [if_pos (by simpa using sgnQ_zero.2 h1), addQ_zero_left _ _ lx ly h1]
    rfl
  · rw [if_neg (by simpa using fun q => h1 (sgnQ_zero.1 q)), ra_sign, Option.bind_some]
    dsimp only
    by_cases h2 : p2 = 0
    · rw [if_pos (by simpa using sgnQ_zero.2 h2), addQ_zero_right _ _ lx ly h2]
      rfl
    · rw [if_neg (by simpa using fun q => h2 (sgnQ_zero.1 q)), ra_cmp q1 q2 (by omega), Option.bind_some]
      dsimp only
      have m1 := nd_mul_len B32_le p1 q2
      have m2 := nd_mul_len B32_le p2 q1
      have m3 := nd_mul_len B32_le q1 q2
      by_cases hq : q1 = q2
      · rw [if_neg (by simpa using cmpN_zero.2 hq), addQ_same _ _ lx hq]
        dsimp only
        have a1 := nd_add_len B32_le p1 p2
        have a2 := nd_sub_len B32_le p1 p2
        have a3 := nd_sub_len B32_le p2 p1
        by_cases hn : n1 = n2
        · rw [if_pos (by simpa using hn), if_pos hn, ra_add p1 p2 (by omega) (by omega), Option.bind_some, ra_low n1 _ q1 (by omega) (by omega) hq1, Option.bind_some]
        · rw [if_neg (by simpa using hn), if_neg hn, ra_cmp p1 p2 (by omega), Option.bind_some]
          dsimp only
          have hlt := cmpN_lt (a := p1) (b := p2)
          by_cases hle : p2 ≤ p1
          · have hge : cmpN p1 p2 ≥ 0 := by omega
            rw [if_pos (decide_eq_true hge), if_pos hle, ra_sub p1 p2 (by omega) hle, Option.bind_some, ra_low n1 _ q1 (by omega) (by omega) hq1, Option.bind_some]
          · have hge : ¬ cmpN p1 p2 ≥ 0 := by omega
            rw [if_neg (by simpa using hge), if_neg hle, ra_sub p2 p1 (by omega) (by omega), Option.bind_some, ra_low n2 _ q1 (by omega) (by omega) hq1, Option.bind_some]
      · have hq0 : q1 * q2 ≠ 0 := Nat.mul_ne_zero hq1 hq2
        rw [if_pos (by simpa using fun q => hq (cmpN_zero.1 q)), ra_mul p1 q2 (by omega) (by omega), Option.bind_some, ra_mul p2 q1 (by omega) (by omega), Option.bind_some, ra_mul q1 q2 (by omega) (by omega), Option.bind_some]
        dsimp only
        unfold addQ
        dsimp only
        have a1 := nd_add_len B32_le (p1 * q2) (p2 * q1)
        have a2 := nd_sub_len B32_le (p1 * q2) (p2 * q1)
        have a3 := nd_sub_len B32_le (p2 * q1) (p1 * q2)
        by_cases hn : n1 = n2
        · rw [if_pos (by simpa using hn), if_pos hn, ra_add _ _ (by omega) (by omega), Option.bind_some, ra_low n1 _ _ (by omega) (by omega) hq0, Option.bind_some]
        · rw [if_neg (by simpa using hn), if_neg hn, ra_cmp _ _ (by omega), Option.bind_some]
          dsimp only
          have hlt := cmpN_lt (a := p1 * q2) (b := p2 * q1)
          by_cases hle : p2 * q1 ≤ p1 * q2
          · have hge : cmpN (p1 * q2) (p2 * q1) ≥ 0 := by
              rcases Int.lt_or_le (cmpN (p1 * q2) (p2 * q1)) 0 with g | g
              · have := hlt.1 g
                omega
              · exact g
            rw [if_pos (decide_eq_true hge), if_pos hle, ra_sub _ _ (by omega) hle, Option.bind_some, ra_low n1 _ _ (by omega) (by omega) hq0, Option.bind_some]
          · have hge : ¬ cmpN (p1 * q2) (p2 * q1) ≥ 0 := by
              have := hlt.2 (Nat.lt_of_not_le hle)
              omega
            rw [if_neg (by simpa using hge), if_neg hle, ra_sub _ _ (by omega) (Nat.le_of_lt (Nat.lt_of_not_le hle)), Option.bind_some, ra_low n2 _ _ (by omega) (by omega) hq0, Option.bind_some]
theorem ri_add {x y : Q3} {m n : Nat} (hx : low x) (bx : below m x) (hy : low y) (bY : below n y) (hm : m ≤ 800000) (hn : n ≤ 800000) : S.i_rat_add (rp B32 x, (rp B32 y, ())) = some (rp B32 (addQ x y), ()) := by
  unfold S.i_rat_add
  dsimp only
  rw [if_pos ⟨lowb_rp9 (by decide) hx bx (by omega), lowb_rp9 (by decide) hy bY (by omega)⟩, rv_rp B32_le, rv_rp B32_le]
def P.i_rat_mul (k : Nat) (x : ((Bool × ((List Int) × (List Int))) × ((Bool × ((List Int) × (List Int))) × Unit))) : (Option ((Bool × ((List Int) × (List Int))) × Unit)) :=
 (Option.bind (S.i_rat_sign ((x.1.1 , (x.1.2.1 , x.1.2.2)) , ())) (fun (y0 : (Int × Unit)) => (if ((y0.1 == (0 : Int)) = true) then (Option.bind (S.i_whole ((0 : Int) , ())) (fun (y1 : ((Bool × ((List Int) × (List Int))) × Unit)) => (some ((y1.1.1 , (y1.1.2.1 , y1.1.2.2)) , ()))))
 else (Option.bind (S.i_rat_sign ((x.2.1.1 , (x.2.1.2.1 , x.2.1.2.2)) , ())) (fun (y2 : (Int × Unit)) => (if ((y2.1 == (0 : Int)) = true) then (Option.bind (S.i_whole ((0 : Int) , ())) (fun (y3 : ((Bool × ((List Int) × (List Int))) × Unit)) => (some ((y3.1.1 , (y3.1.2.1 , y3.1.2.2)) , ()))))
 else (Option.bind (S.i_lowest (false , (x.1.2.1 , (x.2.1.2.2 , ())))) (fun (y4 : ((Bool × ((List Int) × (List Int))) × Unit)) => (Option.bind (S.i_lowest (false , (x.2.1.2.1 , (x.1.2.2 , ())))) (fun (y5 : ((Bool × ((List Int) × (List Int))) × Unit)) => (Option.bind (S.i_nat_mul (y4.1.2.1 , (y5.1.2.1 , ()))) (fun (y6 : ((List Int) × Unit)) => (Option.bind (S.i_nat_mul (y4.1.2.2 , (y5.1.2.2 , ()))) (fun (y7 : ((List Int) × Unit)) => (some (((!(x.1.1 == x.2.1.1)) , (y6.1 , y7.1)) , ()))))))))))))))))
theorem rm_mul (p q : Nat) (hp : (nd B32 p).length ≤ 1000000) (hq : (nd B32 q).length ≤ 1000000) : S.i_nat_mul (nd B32 p, (nd B32 q, ())) = some (nd B32 (p * q), ()) := by
  unfold S.i_nat_mul
  dsimp only
  rw [if_pos ⟨dig_nd B32_le _, dig_nd B32_le _, by omega, by omega⟩, dval_nd B32_le, dval_nd B32_le]
theorem rm_low (n : Bool) (p q : Nat) (hp : (nd B32 p).length ≤ 1000000) (hq : (nd B32 q).length ≤ 1000000) (h0 : q ≠ 0) : S.i_lowest (n, (nd B32 p, (nd B32 q, ()))) = some (rp B32 (lowN n p q), ()) := by
  unfold S.i_lowest
  dsimp only
  rw [if_pos ⟨canon_nd B32_le _, canon_nd B32_le _, nd_ne B32_le h0, by omega, by omega⟩, dval_nd B32_le, dval_nd B32_le]
theorem rm_sign (n : Bool) (p : Nat) (bs : List Int) : S.i_rat_sign ((n, (nd B32 p, bs)), ()) = some (sgnQ n p, ()) := by
  unfold S.i_rat_sign
  dsimp only
  rw [if_pos (canon_nd B32_le _), dval_nd B32_le]
theorem rm_zero : S.i_whole (0, ()) = some (rp B32 (false, (0, 1)), ()) := by
  unfold S.i_whole
  rfl
def S.i_rat_mul (x : ((Bool × ((List Int) × (List Int))) × ((Bool × ((List Int) × (List Int))) × Unit))) : (Option ((Bool × ((List Int) × (List Int))) × Unit)) := if lowb B32 100000 x.1 = true ∧ lowb B32 100000 x.2.1 = true then some (rp B32 (mulQ (rv B32 x.1) (rv B32 x.2.1)), ()) else none
theorem S.i_rat_mul_ok (x : ((Bool × ((List Int) × (List Int))) × ((Bool × ((List Int) × (List Int))) × Unit))) (r : _) (h : S.i_rat_mul x = some r) : ∃ k, P.i_rat_mul k x = some r := by
  obtain ⟨x, y, u⟩ := x
  unfold S.i_rat_mul at h
  dsimp only at h
  split at h
  case isFalse => cases h
  rename_i hc
  obtain ⟨hx, hy⟩ := hc
  cases h
  rw [lowb_iff] at hx hy
  obtain ⟨hx, lx⟩ := hx
  obtain ⟨hy, ly⟩ := hy
  obtain ⟨n1, p1, q1, rfl, x1, x2⟩ := rok_nd hx
  obtain ⟨n2, p2, q2, rfl, y1, y2⟩ := rok_nd hy
  rw [rv_nd B32_le] at lx ly ⊢
  rw [rv_nd B32_le]
  have hq1 : 0 < q1 := lx.1
  have hq2 : 0 < q2 := ly.1
  refine ⟨0, ?_⟩
  unfold P.i_rat_mul mulQ
  dsimp only
  rw [rm_sign, Option.bind_some, rm_zero, Option.bind_some]
  dsimp only
  by_cases h1 : p1 = 0
  · rw [if_pos (by simpa using sgnQ_zero.2 h1), h1, Nat.zero_mul, lowN_zero _ (Nat.mul_pos hq1 hq2)]
  · rw [if_neg (by simpa using fun q => h1 (sgnQ_zero.1 q)), rm_sign, Option.bind_some]
    dsimp only
    by_cases h2 : p2 = 0
    · rw [if_pos (by simpa using sgnQ_zero.2 h2), h2, Nat.mul_zero, lowN_zero _ (Nat.mul_pos hq1 hq2)]
    · have d1 := nd_div_len B32_le p1 (Nat.gcd p1 q2)
      have d2 := nd_div_len B32_le p2 (Nat.gcd p2 q1)
      have d3 := nd_div_len B32_le q2 (Nat.gcd p1 q2)
      have d4 := nd_div_len B32_le q1 (Nat.gcd p2 q1)
      rw [if_neg (by simpa using fun q => h2 (sgnQ_zero.1 q)), rm_low false p1 q2 (by omega) (by omega) (by omega), Option.bind_some, rm_low false p2 q1 (by omega) (by omega) (by omega), Option.bind_some, cross_mul _ (fun _ => ⟨h1, h2⟩) hq1 hq2 lx.2.2 ly.2.2]
      unfold rp lowN
      dsimp only
      rw [rm_mul _ _ (by omega) (by omega), Option.bind_some, rm_mul _ _ (by omega) (by omega), Option.bind_some]
      rfl
theorem ri_mul {x y : Q3} {m n : Nat} (hx : low x) (bx : below m x) (hy : low y) (bY : below n y) (hm : m ≤ 800000) (hn : n ≤ 800000) : S.i_rat_mul (rp B32 x, (rp B32 y, ())) = some (rp B32 (mulQ x y), ()) := by
  unfold S.i_rat_mul
  dsimp only
  rw [if_pos ⟨lowb_rp9 (by decide) hx bx (by omega), lowb_rp9 (by decide) hy bY (by omega)⟩, rv_rp B32_le, rv_rp B32_le]
def P.i_rat_over (k : Nat) (x : ((Bool × ((List Int) × (List Int))) × ((Bool × ((List Int) × (List Int))) × Unit))) : (Option ((Bool × ((List Int) × (List Int))) × Unit)) :=
 (Option.bind (S.i_rat_mul ((x.1.1 , (x.1.2.1 , x.1.2.2)) , ((x.2.1.1 , (x.2.1.2.2 , x.2.1.2.1)) , ()))) (fun (y0 : ((Bool × ((List Int) × (List Int))) × Unit)) => (some ((y0.1.1 , (y0.1.2.1 , y0.1.2.2)) , ()))))
def S.i_rat_over (x : ((Bool × ((List Int) × (List Int))) × ((Bool × ((List Int) × (List Int))) × Unit))) : (Option ((Bool × ((List Int) × (List Int))) × Unit)) := if lowb B32 100000 x.1 = true ∧ lowb B32 100000 x.2.1 = true ∧ (rv B32 x.2.1).2.1 ≠ 0 then some (rp B32 (overQ (rv B32 x.1) (rv B32 x.2.1)), ()) else none
theorem S.i_rat_over_ok (x : ((Bool × ((List Int) × (List Int))) × ((Bool × ((List Int) × (List Int))) × Unit))) (r : _) (h : S.i_rat_over x = some r) : ∃ k, P.i_rat_over k x = some r := by
  obtain ⟨x, y, u⟩ := x
  unfold S.i_rat_over at h
  dsimp only at h
  split at h
  case isFalse => cases h
  rename_i hc
  obtain ⟨hx, hy, h0⟩ := hc
  cases h
  have hy' := lowb_iff.1 hy
  refine ⟨0, ?_⟩
  have e2 : S.i_rat_mul (x, ((y.1, (y.2.2, y.2.1)), ())) = some (rp B32 (overQ (rv B32 x) (rv B32 y)), ()) := by
    unfold S.i_rat_mul
    dsimp only
    have hz : lowb B32 100000 (y.1, (y.2.2, y.2.1)) = true := by
      rw [lowb_iff]
      obtain ⟨r1, l1⟩ := hy'
      have r2 := rok_iff.1 r1
      refine ⟨rok_iff.2 ⟨r2.2.1, r2.1, r2.2.2.2, r2.2.2.1⟩, ?_⟩
      obtain ⟨l1, l2, l3⟩ := l1
      refine ⟨Nat.pos_of_ne_zero h0, fun _ => Nat.ne_of_gt l1, ?_⟩
      rw [Nat.gcd_comm]
      exact l3
    rw [if_pos ⟨hx, hz⟩]
    rfl
  show Option.bind (S.i_rat_mul (x, ((y.1, (y.2.2, y.2.1)), ()))) (fun y0 => some (y0.1, ())) = _
  rw [e2, Option.bind_some]
theorem ri_over {x y : Q3} {m n : Nat} (hx : low x) (bx : below m x) (hy : low y) (bY : below n y) (h0 : y.2.1 ≠ 0) (hm : m ≤ 800000) (hn : n ≤ 800000) : S.i_rat_over (rp B32 x, (rp B32 y, ())) = some (rp B32 (overQ x y), ()) := by
  unfold S.i_rat_over
  dsimp only
  rw [if_pos ⟨lowb_rp9 (by decide) hx bx (by omega), lowb_rp9 (by decide) hy bY (by omega), by rw [rv_rp B32_le]; exact h0⟩, rv_rp B32_le, rv_rp B32_le]
abbrev P.i_line_upTimes_b0  (x1 : (Int × (Int × ((List (Bool × ((List Int) × (List Int)))) × (((List (Bool × ((List Int) × (List Int)))) × (List (Bool × ((List Int) × (List Int))))) × ((List (Bool × ((List Int) × (List Int)))) × Unit)))))) (g2 : (Int × (Int × ((List (Bool × ((List Int) × (List Int)))) × (((List (Bool × ((List Int) × (List Int)))) × (List (Bool × ((List Int) × (List Int))))) × ((List (Bool × ((List Int) × (List Int)))) × Unit))))) → Option ((List (Bool × ((List Int) × (List Int)))) × Unit)) : Option ((List (Bool × ((List Int) × (List Int)))) × Unit) :=
 (if ((decide (x1.1 < x1.2.1)) = true) then (if ((decide ((0 : Int) ≤ x1.1)) = true) then (if ((decide (x1.1 < (((List.length x1.2.2.1) : Nat) : Int))) = true) then (Option.bind (S.i_whole ((1 : Int) , ())) (fun (y3 : ((Bool × ((List Int) × (List Int))) × Unit)) => (if ((decide (x1.1 > (0 : Int))) = true) then (if ((decide ((0 : Int) ≤ (Go.IntKind.wrap Go.IntKind.i64 (x1.1 - (1 : Int))))) = true) then (if ((decide ((Go.IntKind.wrap Go.IntKind.i64 (x1.1 - (1 : Int))) < (((List.length x1.2.2.2.1.2) : Nat) : Int))) = true) then (if ((decide ((0 : Int) ≤ (Go.IntKind.wrap Go.IntKind.i64 (x1.1 - (1 : Int))))) = true) then (if ((decide ((Go.IntKind.wrap Go.IntKind.i64 (x1.1 - (1 : Int))) < (((List.length x1.2.2.2.2.1) : Nat) : Int))) = true) then (Option.bind (S.i_rat_mul (((List.getD x1.2.2.2.1.2 (Int.toNat (Go.IntKind.wrap Go.IntKind.i64 (x1.1 - (1 : Int)))) (false , (([] : List Int) , ([] : List Int)))).1 , ((List.getD x1.2.2.2.1.2 (Int.toNat (Go.IntKind.wrap Go.IntKind.i64 (x1.1 - (1 : Int)))) (false , (([] : List Int) , ([] : List Int)))).2.1 , (List.getD x1.2.2.2.1.2 (Int.toNat (Go.IntKind.wrap Go.IntKind.i64 (x1.1 - (1 : Int)))) (false , (([] : List Int) , ([] : List Int)))).2.2)) , (((List.getD x1.2.2.2.2.1 ((0 : Nat) + (Int.toNat (Go.IntKind.wrap Go.IntKind.i64 (x1.1 - (1 : Int))))) (false , (([] : List Int) , ([] : List Int)))).1 , ((List.getD x1.2.2.2.2.1 ((0 : Nat) + (Int.toNat (Go.IntKind.wrap Go.IntKind.i64 (x1.1 - (1 : Int))))) (false , (([] : List Int) , ([] : List Int)))).2.1 , (List.getD x1.2.2.2.2.1 ((0 : Nat) + (Int.toNat (Go.IntKind.wrap Go.IntKind.i64 (x1.1 - (1 : Int))))) (false , (([] : List Int) , ([] : List Int)))).2.2)) , ()))) (fun (y4 : ((Bool × ((List Int) × (List Int))) × Unit)) => (Option.bind (S.i_rat_add ((y3.1.1 , (y3.1.2.1 , y3.1.2.2)) , ((y4.1.1 , (y4.1.2.1 , y4.1.2.2)) , ()))) (fun (y5 : ((Bool × ((List Int) × (List Int))) × Unit)) => (Option.bind (S.i_rat_over ((y5.1.1 , (y5.1.2.1 , y5.1.2.2)) , (((List.getD x1.2.2.1 (Int.toNat x1.1) (false , (([] : List Int) , ([] : List Int)))).1 , ((List.getD x1.2.2.1 (Int.toNat x1.1) (false , (([] : List Int) , ([] : List Int)))).2.1 , (List.getD x1.2.2.1 (Int.toNat x1.1) (false , (([] : List Int) , ([] : List Int)))).2.2)) , ()))) (fun (y6 : ((Bool × ((List Int) × (List Int))) × Unit)) => (if ((decide ((((List.length x1.2.2.2.2.1) + (List.length ((y6.1.1 , (y6.1.2.1 , y6.1.2.2)) :: ([] : List (Bool × ((List Int) × (List Int))))))) * (56 : Nat)) ≤ (140737488355328 : Nat))) = true) then (g2 ((Go.IntKind.wrap Go.IntKind.i64 (x1.1 + (1 : Int))) , (x1.2.1 , (x1.2.2.1 , ((x1.2.2.2.1.1 , x1.2.2.2.1.2) , ((x1.2.2.2.2.1 ++ ((y6.1.1 , (y6.1.2.1 , y6.1.2.2)) :: ([] : List (Bool × ((List Int) × (List Int)))))) , ()))))))
 else none)))))))
 else none)
 else none)
 else none)
 else none)
 else (Option.bind (S.i_rat_over ((y3.1.1 , (y3.1.2.1 , y3.1.2.2)) , (((List.getD x1.2.2.1 (Int.toNat x1.1) (false , (([] : List Int) , ([] : List Int)))).1 , ((List.getD x1.2.2.1 (Int.toNat x1.1) (false , (([] : List Int) , ([] : List Int)))).2.1 , (List.getD x1.2.2.1 (Int.toNat x1.1) (false , (([] : List Int) , ([] : List Int)))).2.2)) , ()))) (fun (y7 : ((Bool × ((List Int) × (List Int))) × Unit)) => (if ((decide ((((List.length x1.2.2.2.2.1) + (List.length ((y7.1.1 , (y7.1.2.1 , y7.1.2.2)) :: ([] : List (Bool × ((List Int) × (List Int))))))) * (56 : Nat)) ≤ (140737488355328 : Nat))) = true) then (g2 ((Go.IntKind.wrap Go.IntKind.i64 (x1.1 + (1 : Int))) , (x1.2.1 , (x1.2.2.1 , ((x1.2.2.2.1.1 , x1.2.2.2.1.2) , ((x1.2.2.2.2.1 ++ ((y7.1.1 , (y7.1.2.1 , y7.1.2.2)) :: ([] : List (Bool × ((List Int) × (List Int)))))) , ()))))))
 else none))))))
 else none)
 else none)
 else (some (x1.2.2.2.2.1 , ())))
def P.i_line_upTimes (k : Nat) (x : (((List (Bool × ((List Int) × (List Int)))) × (List (Bool × ((List Int) × (List Int))))) × Unit)) : (Option ((List (Bool × ((List Int) × (List Int)))) × Unit)) :=
 (loopP (X := (Int × (Int × ((List (Bool × ((List Int) × (List Int)))) × (((List (Bool × ((List Int) × (List Int)))) × (List (Bool × ((List Int) × (List Int))))) × ((List (Bool × ((List Int) × (List Int)))) × Unit)))))) (R := ((List (Bool × ((List Int) × (List Int)))) × Unit)) (P.i_line_upTimes_b0 ) k ((0 : Int) , ((((List.length x.1.1) : Nat) : Int) , (x.1.1 , ((x.1.1 , x.1.2) , (([] : List (Bool × ((List Int) × (List Int)))) , ()))))))
open Classical in
def S.i_line_upTimes (x : (((List (Bool × ((List Int) × (List Int)))) × (List (Bool × ((List Int) × (List Int))))) × Unit)) : (Option ((List (Bool × ((List Int) × (List Int)))) × Unit)) := if isLine B32 x.1 then some ((upL (x.1.1.map (rv B32)) (x.1.2.map (rv B32))).map (rp B32), ()) else none
theorem S.i_line_upTimes_ok (x : (((List (Bool × ((List Int) × (List Int)))) × (List (Bool × ((List Int) × (List Int))))) × Unit)) (r : _) (h : S.i_line_upTimes x = some r) : ∃ k, P.i_line_upTimes k x = some r := by
  obtain ⟨y, u⟩ := x
  unfold S.i_line_upTimes at h
  dsimp only at h
  split at h
  case isFalse => cases h
  rename_i hc
  cases h
  obtain ⟨us, ds, rfl, hu, hd, hl, h20⟩ := hc
  obtain ⟨N, hN⟩ : ∃ N, us.length = N := ⟨_, rfl⟩
  refine ⟨N + 1, ?_⟩
  have h1 : S.i_whole (1, ()) = some (rp B32 oneQ, ()) := by rfl
  unfold P.i_line_upTimes upL
  dsimp only
  rw [map_rv B32_le, map_rv B32_le, List.length_map, hN]
  have key := loop_up0 (k := N + 1) (b := P.i_line_upTimes_b0) (n := N) (st := fun i => ((i : Int), (N : Int), us.map (rp B32), (us.map (rp B32), ds.map (rp B32)), ((List.range i).map (upF us ds)).map (rp B32), ())) (F := fun i => some (((List.range N).map (upF us ds)).map (rp B32), ())) (fun i g hi hg' => by
    have e1 : (i : Int) < (N : Int) := by omega
    have e2 : (0 : Int) ≤ (i : Int) := by omega
    have e3 : (i : Int) < ((us.map (rp B32)).length : Int) := by rw [List.length_map]; omega
    have e4 : ((((List.range i).map (upF us ds)).map (rp B32)).length + 1) * 56 ≤ 140737488355328 := by
      simp only [List.length_map, List.length_range]
      omega
    have gu := rates_get hu (show i < us.length by omega)
    unfold P.i_line_upTimes_b0
    dsimp only at hg' ⊢
    rw [if_pos (decide_eq_true e1), if_pos (decide_eq_true e2), if_pos (decide_eq_true e3), h1, Option.bind_some]
    dsimp only
    simp only [List.length_cons, List.length_nil, Nat.zero_add]
    cases i with
    | zero =>
      rw [if_neg (by simp), Int.toNat_natCast, getD_rp B32 (show 0 < us.length by omega)]
      show Option.bind (S.i_rat_over (rp B32 oneQ, (rp B32 (us.getD 0 zeroQ), ()))) _ = _
      rw [ri_over oneQ_low (oneQ_below (n := 1) (by decide)) gu.1 gu.2.1 gu.2.2.1 (by decide) (by decide), Option.bind_some]
      dsimp only
      rw [if_pos (decide_eq_true e4), wr (by omega) (by omega), ← hg', range_snoc, List.map_append]
      rfl
    | succ j =>
      have ej : ((j + 1 : Nat) : Int) > 0 := by omega
      have f1 : (0 : Int) ≤ (j : Int) := by omega
      have f2 : (j : Int) < ((ds.map (rp B32)).length : Int) := by rw [List.length_map]; omega
      have f3 : (j : Int) < ((((List.range (j + 1)).map (upF us ds)).map (rp B32)).length : Int) := by
        simp only [List.length_map, List.length_range]
        omega
      have gd := rates_get hd (show j < ds.length by omega)
      have gt := upF_ok hu hd j (by omega) (by omega)
      have l1 := mulQ_low _ _ gd.1 gt.1
      have b1 := mulQ_below gd.2.1 gt.2
      have l2 := addQ_low _ _ oneQ_low l1
      have b2 := addQ_below (oneQ_below (n := 1) (by decide)) b1
      rw [if_pos (decide_eq_true ej), wr (x := ((j + 1 : Nat) : Int) - 1) (by omega) (by omega), show ((j + 1 : Nat) : Int) - 1 = (j : Int) by omega, if_pos (decide_eq_true f1), if_pos (decide_eq_true f2), if_pos (decide_eq_true f1), if_pos (decide_eq_true f3), Int.toNat_natCast, getD_rp B32 (show j < ds.length by omega), getD_rpR B32 (show j < j + 1 by omega)]
      show Option.bind (S.i_rat_mul (rp B32 (ds.getD j zeroQ), (rp B32 (upF us ds j), ()))) _ = _
      rw [ri_mul gd.1 gd.2.1 gt.1 gt.2 (by decide) (by omega), Option.bind_some]
      show Option.bind (S.i_rat_add (rp B32 oneQ, (rp B32 (mulQ (ds.getD j zeroQ) (upF us ds j)), ()))) _ = _
      rw [ri_add oneQ_low (oneQ_below (n := 1) (by decide)) l1 b1 (by decide) (by omega), Option.bind_some]
      dsimp only
      rw [Int.toNat_natCast, getD_rp B32 (show j + 1 < us.length by omega)]
      show Option.bind (S.i_rat_over (rp B32 (addQ oneQ (mulQ (ds.getD j zeroQ) (upF us ds j))), (rp B32 (us.getD (j + 1) zeroQ), ()))) _ = _
      rw [ri_over l2 b2 gu.1 gu.2.1 gu.2.2.1 (by omega) (by decide), Option.bind_some]
      dsimp only
      rw [if_pos (decide_eq_true e4), wr (by omega) (by omega), ← hg', range_snoc _ (j + 1), List.map_append]
      rfl) (fun g => by
    unfold P.i_line_upTimes_b0
    dsimp only
    rw [if_neg (by simp)]) (by omega)
  exact key
def P.i_UpTimes (k : Nat) (x : (((List ByteArray) × (List ByteArray)) × Unit)) : (Option (((List ByteArray) × Bool) × Unit)) :=
 (Option.bind (S.i_lineOf ((x.1.1 , x.1.2) , ())) (fun (y0 : ((((List (Bool × ((List Int) × (List Int)))) × (List (Bool × ((List Int) × (List Int))))) × Bool) × Unit)) => (if ((!y0.1.2) = true) then (some ((([] : List ByteArray) , false) , ()))
 else (Option.bind (S.i_line_upTimes ((y0.1.1.1 , y0.1.1.2) , ())) (fun (y1 : ((List (Bool × ((List Int) × (List Int)))) × Unit)) => (Option.bind (S.i_toldList (y1.1 , ())) (fun (y2 : (((List ByteArray) × Bool) × Unit)) => (some ((y2.1.1 , y2.1.2) , ())))))))))
def S.i_UpTimes (x : (((List ByteArray) × (List ByteArray)) × Unit)) : (Option (((List ByteArray) × Bool) × Unit)) := P.i_UpTimes 0 x
theorem S.i_UpTimes_ok (x : (((List ByteArray) × (List ByteArray)) × Unit)) (r : _) (h : S.i_UpTimes x = some r) : ∃ k, P.i_UpTimes k x = some r := ⟨0, h⟩
def P.l_FnExactUpTimes (k : Nat) (x : (((List ByteArray) × (List ByteArray)) × Unit)) : (Option (Bool × Unit)) :=
 (Option.bind (S.l_szLine ((x.1.1 , x.1.2) , ((1000000 : Int) , ()))) (fun (y0 : (Int × Unit)) => (if ((decide (y0.1 < (0 : Int))) = true) then (some (true , ()))
 else (Option.bind (S.l_toLineo ((x.1.1 , x.1.2) , (false , ()))) (fun (y1 : ((((List ByteArray) × Nat) × ((List ByteArray) × Nat)) × Unit)) => (Option.bind (S.s_UpTimes (((seen y1.1.1.1 0 y1.1.1.2) , (seen y1.1.2.1 0 y1.1.2.2)) , ())) (fun (y2 : (((List ByteArray) × Bool) × Unit)) => (Option.bind (S.l_toLineo ((x.1.1 , x.1.2) , (false , ()))) (fun (y3 : ((((List ByteArray) × Nat) × ((List ByteArray) × Nat)) × Unit)) => (Option.bind (S.i_UpTimes (((seen y3.1.1.1 0 y3.1.1.2) , (seen y3.1.2.1 0 y3.1.2.2)) , ())) (fun (y4 : (((List ByteArray) × Bool) × Unit)) => (Option.bind (S.l_eqStringS (y4.1.1 , (y2.1.1 , ()))) (fun (y5 : (Bool × Unit)) => (if ((!y5.1) = true) then (some (false , ()))
 else (if ((!(y4.1.2 == y2.1.2)) = true) then (some (false , ()))
 else (Option.bind (S.l_toLineo ((x.1.1 , x.1.2) , (false , ()))) (fun (y6 : ((((List ByteArray) × Nat) × ((List ByteArray) × Nat)) × Unit)) => (Option.bind (S.l_intactLine ((((List.drop 0 y3.1.1.1) , y3.1.1.2) , ((List.drop 0 y3.1.2.1) , y3.1.2.2)) , ((((List.drop 0 y6.1.1.1) , y6.1.1.2) , ((List.drop 0 y6.1.2.1) , y6.1.2.2)) , ()))) (fun (y7 : (Bool × Unit)) => (if ((!y7.1) = true) then (some (false , ()))
 else (Option.bind (S.l_markLine ((seen y3.1.1.1 0 y3.1.1.2) , ((seen y3.1.2.1 0 y3.1.2.2) , ((101 : Int) , ())))) (fun (y8 : (Int × ((List ByteArray) × ((List ByteArray) × Unit)))) => (if ((decide (y8.1 < (0 : Int))) = true) then (some (false , ()))
 else (Option.bind (S.l_eqStringS (y4.1.1 , (y2.1.1 , ()))) (fun (y9 : (Bool × Unit)) => (if ((!y9.1) = true) then (some (false , ()))
 else (if ((!(y4.1.2 == y2.1.2)) = true) then (some (false , ()))
 else (Option.bind (S.l_markStringS (y4.1.1 , ((101 : Int) , ()))) (fun (y10 : (Int × ((List ByteArray) × Unit))) => (Option.bind (S.l_heldStringS ((splice y4.1.1 y10.2.1 (0 : Nat)) , ((101 : Int) , ()))) (fun (y11 : (Int × Unit)) => (if ((decide (y11.1 < (0 : Int))) = true) then (some (false , ()))
 else (if ((y11.1 != y10.1) = true) then (some (false , ()))
 else (Option.bind (S.l_toLineo ((x.1.1 , x.1.2) , (true , ()))) (fun (y12 : ((((List ByteArray) × Nat) × ((List ByteArray) × Nat)) × Unit)) => (Option.bind (S.i_UpTimes (((seen y12.1.1.1 0 y12.1.1.2) , (seen y12.1.2.1 0 y12.1.2.2)) , ())) (fun (y13 : (((List ByteArray) × Bool) × Unit)) => (Option.bind (S.l_eqStringS (y13.1.1 , (y2.1.1 , ()))) (fun (y14 : (Bool × Unit)) => (if ((!y14.1) = true) then (some (false , ()))
 else (if ((!(y13.1.2 == y2.1.2)) = true) then (some (false , ()))
 else (Option.bind (S.l_heldStringS ((splice y4.1.1 y10.2.1 (0 : Nat)) , ((101 : Int) , ()))) (fun (y15 : (Int × Unit)) => (if ((decide (y15.1 < (0 : Int))) = true) then (some (false , ()))
 else (if ((y15.1 != y10.1) = true) then (some (false , ()))
 else (some (true , ())))))))))))))))))))))))))))))))))))))))))))))))
def S.l_FnExactUpTimes (x : (((List ByteArray) × (List ByteArray)) × Unit)) : (Option (Bool × Unit)) := P.l_FnExactUpTimes 0 x
theorem S.l_FnExactUpTimes_ok (x : (((List ByteArray) × (List ByteArray)) × Unit)) (r : _) (h : S.l_FnExactUpTimes x = some r) : ∃ k, P.l_FnExactUpTimes k x = some r := ⟨0, h⟩
end Go.Cm
end
