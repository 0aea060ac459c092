import Derived.Test.YtlnejaehiangnaaGreatDoorPlTimeBetweenc
set_option linter.unusedVariables false
set_option maxRecDepth 100000
noncomputable section
namespace Go.Cm
abbrev P.slices_IndexFunc__i_rat_i_ratP_b0  (x1 : (Int × (Int × (Unit × ((List (Bool × ((List Int) × (List Int)))) × Unit))))) (g2 : (Int × (Int × (Unit × ((List (Bool × ((List Int) × (List Int)))) × Unit)))) → Option (Int × Unit)) : Option (Int × Unit) :=
 (if ((decide (x1.1 < x1.2.1)) = true) then (if ((decide ((0 : Int) ≤ x1.1)) = true) then (if ((decide (x1.1 < (((List.length x1.2.2.2.1) : Nat) : Int))) = true) then (Option.bind (S.i_notPlus (((List.getD x1.2.2.2.1 (Int.toNat x1.1) (false , (([] : List Int) , ([] : List Int)))).1 , ((List.getD x1.2.2.2.1 (Int.toNat x1.1) (false , (([] : List Int) , ([] : List Int)))).2.1 , (List.getD x1.2.2.2.1 (Int.toNat x1.1) (false , (([] : List Int) , ([] : List Int)))).2.2)) , ())) (fun (y3 : (Bool × Unit)) => (if (y3.1 = true) then (some (x1.1 , ()))
 else (g2 ((Go.IntKind.wrap Go.IntKind.i64 (x1.1 + (1 : Int))) , (x1.2.1 , (() , (x1.2.2.2.1 , ()))))))))
 else none)
 else none)
 else (some ((-1 : Int) , ())))
def P.slices_IndexFunc__i_rat_i_ratP (k : Nat) (x : ((List (Bool × ((List Int) × (List Int)))) × (Unit × Unit))) : (Option (Int × Unit)) :=
 (loopP (X := (Int × (Int × (Unit × ((List (Bool × ((List Int) × (List Int)))) × Unit))))) (R := (Int × Unit)) (P.slices_IndexFunc__i_rat_i_ratP_b0 ) k ((0 : Int) , ((((List.length x.1) : Nat) : Int) , (() , (x.1 , ())))))
open Classical in
def S.slices_IndexFunc__i_rat_i_ratP (x : ((List (Bool × ((List Int) × (List Int)))) × (Unit × Unit))) : (Option (Int × Unit)) := if goodL B32 x.1 then some (ixF (fun r => !posQ r) (x.1.map (rv B32)), ()) else none
theorem S.slices_IndexFunc__i_rat_i_ratP_ok (x : ((List (Bool × ((List Int) × (List Int)))) × (Unit × Unit))) (r : _) (h : S.slices_IndexFunc__i_rat_i_ratP x = some r) : ∃ k, P.slices_IndexFunc__i_rat_i_ratP k x = some r := by
  obtain ⟨xs, u, u'⟩ := x
  unfold S.slices_IndexFunc__i_rat_i_ratP at h
  dsimp only at h
  split at h
  case isFalse => cases h
  rename_i hc
  cases h
  obtain ⟨qs, n, rfl, hg⟩ := hc
  have hlen := good_len hg
  refine ⟨qs.length + 1, ?_⟩
  unfold P.slices_IndexFunc__i_rat_i_ratP
  dsimp only
  have hm : ∀ i (hi : i < qs.length), S.i_notPlus (rp B32 qs[i], ()) = some (!posQ qs[i], ()) := by
    intro i hi
    unfold S.i_notPlus
    dsimp only
    rw [if_pos (lowb_iff.1 (good_get (by decide) hg hi)).1, rv_rp B32_le]
  have key := loop_up0 (k := qs.length + 1) (b := P.slices_IndexFunc__i_rat_i_ratP_b0) (n := qs.length) (st := fun i => ((i : Int), (qs.length : Int), (), qs.map (rp B32), ())) (F := fun i => some (if ixF (fun r => !posQ r) (qs.drop i) < 0 then -1 else ixF (fun r => !posQ r) (qs.drop i) + i, ())) (fun i g hi hg' => by
    unfold P.slices_IndexFunc__i_rat_i_ratP_b0
    dsimp only at hg' ⊢
    have e1 : (i : Int) < (qs.length : Int) := by omega
    have e2 : (0 : Int) ≤ (i : Int) := by omega
    have e3 : (i : Int) < ((qs.map (rp B32)).length : Int) := by rw [List.length_map]; omega
    rw [if_pos (decide_eq_true e1), if_pos (decide_eq_true e2), if_pos (decide_eq_true e3), getD_cast (qs.map (rp B32)) i _ (by rw [List.length_map]; exact hi), List.getElem_map]
    show Option.bind (S.i_notPlus (rp B32 qs[i], ())) _ = _
    rw [hm i hi, Option.bind_some, List.drop_eq_getElem_cons hi, ixF_cons]
    dsimp only
    cases hf : !posQ qs[i]
    · simp only [Bool.false_eq_true, if_false]
      rw [wr (by omega) (by omega)]
      refine hg'.trans ?_
      congr 2
      have := ixF_ge (fun r => !posQ r) (qs.drop (i + 1))
      split
      · rfl
      · rw [if_neg (by omega)]
        omega
    · simp) (fun g => by
    unfold P.slices_IndexFunc__i_rat_i_ratP_b0
    dsimp only
    rw [if_neg (by simp), List.drop_length]
    rfl) (by omega)
  rw [List.length_map, map_rv B32_le]
  refine key.trans ?_
  rw [List.drop_zero]
  congr 2
  have hr := ixF_ge (fun r => !posQ r) qs
  split <;> omega
def P.slices_ContainsFunc__i_rat_i_ratP (k : Nat) (x : ((List (Bool × ((List Int) × (List Int)))) × (Unit × Unit))) : (Option (Bool × Unit)) :=
 (Option.bind (S.slices_IndexFunc__i_rat_i_ratP (x.1 , (() , ()))) (fun (y0 : (Int × Unit)) => (some ((decide (y0.1 ≥ (0 : Int))) , ()))))
open Classical in
def S.slices_ContainsFunc__i_rat_i_ratP (x : ((List (Bool × ((List Int) × (List Int)))) × (Unit × Unit))) : (Option (Bool × Unit)) := if goodL B32 x.1 then some (!ratesB (x.1.map (rv B32)), ()) else none
theorem S.slices_ContainsFunc__i_rat_i_ratP_ok (x : ((List (Bool × ((List Int) × (List Int)))) × (Unit × Unit))) (r : _) (h : S.slices_ContainsFunc__i_rat_i_ratP x = some r) : ∃ k, P.slices_ContainsFunc__i_rat_i_ratP k x = some r := by
  obtain ⟨xs, u, u'⟩ := x
  unfold S.slices_ContainsFunc__i_rat_i_ratP at h
  dsimp only at h
  split at h
  case isFalse => cases h
  rename_i hc
  cases h
  refine ⟨0, ?_⟩
  unfold P.slices_ContainsFunc__i_rat_i_ratP S.slices_IndexFunc__i_rat_i_ratP
  dsimp only
  rw [if_pos hc, Option.bind_some, ← not_ratesB, ← ixF_any]
def P.i_lineOf (k : Nat) (x : (((List ByteArray) × (List ByteArray)) × Unit)) : (Option ((((List (Bool × ((List Int) × (List Int)))) × (List (Bool × ((List Int) × (List Int))))) × Bool) × Unit)) :=
 (if ((decide ((((List.length x.1.1) : Nat) : Int) < (1 : Int))) = true) then (some (((([] : List (Bool × ((List Int) × (List Int)))) , ([] : List (Bool × ((List Int) × (List Int))))) , false) , ()))
 else (if ((decide ((((List.length x.1.1) : Nat) : Int) > (20 : Int))) = true) then (some (((([] : List (Bool × ((List Int) × (List Int)))) , ([] : List (Bool × ((List Int) × (List Int))))) , false) , ()))
 else (if (((((List.length x.1.2) : Nat) : Int) != (((List.length x.1.1) : Nat) : Int)) = true) then (some (((([] : List (Bool × ((List Int) × (List Int)))) , ([] : List (Bool × ((List Int) × (List Int))))) , false) , ()))
 else (Option.bind (S.i_rats (x.1.1 , ())) (fun (y0 : (((List (Bool × ((List Int) × (List Int)))) × Bool) × Unit)) => (Option.bind (S.i_rats (x.1.2 , ())) (fun (y1 : (((List (Bool × ((List Int) × (List Int)))) × Bool) × Unit)) => (if ((!y0.1.2) = true) then (some (((([] : List (Bool × ((List Int) × (List Int)))) , ([] : List (Bool × ((List Int) × (List Int))))) , false) , ()))
 else (if ((!y1.1.2) = true) then (some (((([] : List (Bool × ((List Int) × (List Int)))) , ([] : List (Bool × ((List Int) × (List Int))))) , false) , ()))
 else (Option.bind (S.slices_ContainsFunc__i_rat_i_ratP (y0.1.1 , (() , ()))) (fun (y2 : (Bool × Unit)) => (if (y2.1 = true) then (some (((([] : List (Bool × ((List Int) × (List Int)))) , ([] : List (Bool × ((List Int) × (List Int))))) , false) , ()))
 else (Option.bind (S.slices_ContainsFunc__i_rat_i_ratP (y1.1.1 , (() , ()))) (fun (y3 : (Bool × Unit)) => (if (y3.1 = true) then (some (((([] : List (Bool × ((List Int) × (List Int)))) , ([] : List (Bool × ((List Int) × (List Int))))) , false) , ()))
 else (some (((y0.1.1 , y1.1.1) , true) , ())))))))))))))))))
def S.i_lineOf (x : (((List ByteArray) × (List ByteArray)) × Unit)) : (Option ((((List (Bool × ((List Int) × (List Int)))) × (List (Bool × ((List Int) × (List Int))))) × Bool) × Unit)) := if okT x.1.1 = true ∧ okT x.1.2 = true then some ((((lineQ x.1.1 x.1.2).1.1.map (rp B32), (lineQ x.1.1 x.1.2).1.2.map (rp B32)), (lineQ x.1.1 x.1.2).2), ()) else none
theorem S.i_lineOf_ok (x : (((List ByteArray) × (List ByteArray)) × Unit)) (r : _) (h : S.i_lineOf x = some r) : ∃ k, P.i_lineOf k x = some r := by
  obtain ⟨⟨us, ds⟩, u⟩ := x
  unfold S.i_lineOf at h
  dsimp only at h
  split at h
  case isFalse => cases h
  rename_i hc
  cases h
  refine ⟨0, ?_⟩
  unfold P.i_lineOf S.i_rats lineQ
  dsimp only
  by_cases h1 : 1 ≤ us.length
  case neg =>
    rw [if_pos (decide_eq_true (show (us.length : Int) < 1 by omega))]
    simp [h1]
  rw [if_neg (by simpa using (show ¬ (us.length : Int) < 1 by omega))]
  by_cases h2 : us.length ≤ 20
  case neg =>
    rw [if_pos (decide_eq_true (show (us.length : Int) > 20 by omega))]
    simp [h2]
  rw [if_neg (by simpa using (show ¬ (us.length : Int) > 20 by omega))]
  by_cases h3 : ds.length = us.length
  case neg =>
    rw [if_pos (by simp; omega)]
    simp [h3]
  rw [if_neg (by simp; omega), if_pos hc.1, if_pos hc.2, Option.bind_some, Option.bind_some]
  dsimp only
  rw [decide_eq_true h1, decide_eq_true h2, decide_eq_true h3]
  simp only [Bool.true_and]
  cases hu : (rdAll us).2
  · rfl
  cases hd : (rdAll ds).2
  · rfl
  have gu := rdAll_goodL (B := B32) hu
  have gd := rdAll_goodL (B := B32) hd
  have cu : S.slices_ContainsFunc__i_rat_i_ratP ((rdAll us).1.map (rp B32), (), ()) = some (!ratesB (rdAll us).1, ()) := by
    unfold S.slices_ContainsFunc__i_rat_i_ratP
    dsimp only
    rw [if_pos gu, map_rv B32_le]
  have cd : S.slices_ContainsFunc__i_rat_i_ratP ((rdAll ds).1.map (rp B32), (), ()) = some (!ratesB (rdAll ds).1, ()) := by
    unfold S.slices_ContainsFunc__i_rat_i_ratP
    dsimp only
    rw [if_pos gd, map_rv B32_le]
  simp only [Bool.not_true, Bool.false_eq_true, if_false]
  rw [cu, Option.bind_some]
  dsimp only
  cases hx : ratesB (rdAll us).1
  · rfl
  rw [if_neg (by decide), cd, Option.bind_some]
  dsimp only
  cases hy : ratesB (rdAll ds).1
  · rfl
  · rfl
def P.i_line_top (k : Nat) (x : (((List (Bool × ((List Int) × (List Int)))) × (List (Bool × ((List Int) × (List Int))))) × Unit)) : (Option (Int × Unit)) :=
 (some ((((List.length x.1.1) : Nat) : Int) , ()))
def S.i_line_top (x : (((List (Bool × ((List Int) × (List Int)))) × (List (Bool × ((List Int) × (List Int))))) × Unit)) : (Option (Int × Unit)) := P.i_line_top 0 x
theorem S.i_line_top_ok (x : (((List (Bool × ((List Int) × (List Int)))) × (List (Bool × ((List Int) × (List Int))))) × Unit)) (r : _) (h : S.i_line_top x = some r) : ∃ k, P.i_line_top k x = some r := ⟨0, h⟩
def P.i_rat_mul (k : Nat) (x : ((Bool × ((List Int) × (List Int))) × ((Bool × ((List Int) × (List Int))) × Unit))) : (Option ((Bool × ((List Int) × (List Int))) × Unit)) :=
 (Option.bind (S.i_rat_sign ((x.1.1 , (x.1.2.1 , x.1.2.2)) , ())) (fun (y0 : (Int × Unit)) => (if ((y0.1 == (0 : Int)) = true) then (Option.bind (S.i_whole ((0 : Int) , ())) (fun (y1 : ((Bool × ((List Int) × (List Int))) × Unit)) => (some ((y1.1.1 , (y1.1.2.1 , y1.1.2.2)) , ()))))
 else (Option.bind (S.i_rat_sign ((x.2.1.1 , (x.2.1.2.1 , x.2.1.2.2)) , ())) (fun (y2 : (Int × Unit)) => (if ((y2.1 == (0 : Int)) = true) then (Option.bind (S.i_whole ((0 : Int) , ())) (fun (y3 : ((Bool × ((List Int) × (List Int))) × Unit)) => (some ((y3.1.1 , (y3.1.2.1 , y3.1.2.2)) , ()))))
 else (Option.bind (S.i_lowest (false , (x.1.2.1 , (x.2.1.2.2 , ())))) (fun (y4 : ((Bool × ((List Int) × (List Int))) × Unit)) => (Option.bind (S.i_lowest (false , (x.2.1.2.1 , (x.1.2.2 , ())))) (fun (y5 : ((Bool × ((List Int) × (List Int))) × Unit)) => (Option.bind (S.i_nat_mul (y4.1.2.1 , (y5.1.2.1 , ()))) (fun (y6 : ((List Int) × Unit)) => (Option.bind (S.i_nat_mul (y4.1.2.2 , (y5.1.2.2 , ()))) (fun (y7 : ((List Int) × Unit)) => (some (((!(x.1.1 == x.2.1.1)) , (y6.1 , y7.1)) , ()))))))))))))))))
theorem rm_mul (p q : Nat) (hp : (nd B32 p).length ≤ 1000000) (hq : (nd B32 q).length ≤ 1000000) : S.i_nat_mul (nd B32 p, (nd B32 q, ())) = some (nd B32 (p * q), ()) := by
  unfold S.i_nat_mul
  dsimp only
  rw [if_pos ⟨dig_nd B32_le _, dig_nd B32_le _, by omega, by omega⟩, dval_nd B32_le, dval_nd B32_le]
theorem rm_low (n : Bool) (p q : Nat) (hp : (nd B32 p).length ≤ 1000000) (hq : (nd B32 q).length ≤ 1000000) (h0 : q ≠ 0) : S.i_lowest (n, (nd B32 p, (nd B32 q, ()))) = some (rp B32 (lowN n p q), ()) := by
  unfold S.i_lowest
  dsimp only
  rw [if_pos ⟨canon_nd B32_le _, canon_nd B32_le _, nd_ne B32_le h0, by omega, by omega⟩, dval_nd B32_le, dval_nd B32_le]
theorem rm_sign (n : Bool) (p : Nat) (bs : List Int) : S.i_rat_sign ((n, (nd B32 p, bs)), ()) = some (sgnQ n p, ()) := by
  unfold S.i_rat_sign
  dsimp only
  rw [if_pos (canon_nd B32_le _), dval_nd B32_le]
theorem rm_zero : S.i_whole (0, ()) = some (rp B32 (false, (0, 1)), ()) := by
  unfold S.i_whole
  rfl
def S.i_rat_mul (x : ((Bool × ((List Int) × (List Int))) × ((Bool × ((List Int) × (List Int))) × Unit))) : (Option ((Bool × ((List Int) × (List Int))) × Unit)) := if lowb B32 100000 x.1 = true ∧ lowb B32 100000 x.2.1 = true then some (rp B32 (mulQ (rv B32 x.1) (rv B32 x.2.1)), ()) else none
theorem S.i_rat_mul_ok (x : ((Bool × ((List Int) × (List Int))) × ((Bool × ((List Int) × (List Int))) × Unit))) (r : _) (h : S.i_rat_mul x = some r) : ∃ k, P.i_rat_mul k x = some r := by
  obtain ⟨x, y, u⟩ := x
  unfold S.i_rat_mul at h
  dsimp only at h
  split at h
  case isFalse => cases h
  rename_i hc
  obtain ⟨hx, hy⟩ := hc
  cases h
  rw [lowb_iff] at hx hy
  obtain ⟨hx, lx⟩ := hx
  obtain ⟨hy, ly⟩ := hy
  obtain ⟨n1, p1, q1, rfl, x1, x2⟩ := rok_nd hx
  obtain ⟨n2, p2, q2, rfl, y1, y2⟩ := rok_nd hy
  rw [rv_nd B32_le] at lx ly ⊢
  rw [rv_nd B32_le]
  have hq1 : 0 < q1 := lx.1
  have hq2 : 0 < q2 := ly.1
  refine ⟨0, ?_⟩
  unfold P.i_rat_mul mulQ
  dsimp only
  rw [rm_sign, Option.bind_some, rm_zero, Option.bind_some]
  dsimp only
  by_cases h1 : p1 = 0
  · rw [if_pos (by simpa using sgnQ_zero.2 h1), h1, Nat.zero_mul, lowN_zero _ (Nat.mul_pos hq1 hq2)]
  · rw [if_neg (by simpa using fun q => h1 (sgnQ_zero.1 q)), rm_sign, Option.bind_some]
    dsimp only
    by_cases h2 : p2 = 0
    · rw [if_pos (by simpa using sgnQ_zero.2 h2), h2, Nat.mul_zero, lowN_zero _ (Nat.mul_pos hq1 hq2)]
    · have d1 := nd_div_len B32_le p1 (Nat.gcd p1 q2)
      have d2 := nd_div_len B32_le p2 (Nat.gcd p2 q1)
      have d3 := nd_div_len B32_le q2 (Nat.gcd p1 q2)
      have d4 := nd_div_len B32_le q1 (Nat.gcd p2 q1)
      rw [if_neg (by simpa using fun q => h2 (sgnQ_zero.1 q)), rm_low false p1 q2 (by omega) (by omega) (by omega), Option.bind_some, rm_low false p2 q1 (by omega) (by omega) (by omega), Option.bind_some, cross_mul _ (fun _ => ⟨h1, h2⟩) hq1 hq2 lx.2.2 ly.2.2]
      unfold rp lowN
      dsimp only
      rw [rm_mul _ _ (by omega) (by omega), Option.bind_some, rm_mul _ _ (by omega) (by omega), Option.bind_some]
      rfl
theorem ri_mul {x y : Q3} {m n : Nat} (hx : low x) (bx : below m x) (hy : low y) (bY : below n y) (hm : m ≤ 800000) (hn : n ≤ 800000) : S.i_rat_mul (rp B32 x, (rp B32 y, ())) = some (rp B32 (mulQ x y), ()) := by
  unfold S.i_rat_mul
  dsimp only
  rw [if_pos ⟨lowb_rp9 (by decide) hx bx (by omega), lowb_rp9 (by decide) hy bY (by omega)⟩, rv_rp B32_le, rv_rp B32_le]
def P.i_rat_over (k : Nat) (x : ((Bool × ((List Int) × (List Int))) × ((Bool × ((List Int) × (List Int))) × Unit))) : (Option ((Bool × ((List Int) × (List Int))) × Unit)) :=
 (Option.bind (S.i_rat_mul ((x.1.1 , (x.1.2.1 , x.1.2.2)) , ((x.2.1.1 , (x.2.1.2.2 , x.2.1.2.1)) , ()))) (fun (y0 : ((Bool × ((List Int) × (List Int))) × Unit)) => (some ((y0.1.1 , (y0.1.2.1 , y0.1.2.2)) , ()))))
def S.i_rat_over (x : ((Bool × ((List Int) × (List Int))) × ((Bool × ((List Int) × (List Int))) × Unit))) : (Option ((Bool × ((List Int) × (List Int))) × Unit)) := if lowb B32 100000 x.1 = true ∧ lowb B32 100000 x.2.1 = true ∧ (rv B32 x.2.1).2.1 ≠ 0 then some (rp B32 (overQ (rv B32 x.1) (rv B32 x.2.1)), ()) else none
theorem S.i_rat_over_ok (x : ((Bool × ((List Int) × (List Int))) × ((Bool × ((List Int) × (List Int))) × Unit))) (r : _) (h : S.i_rat_over x = some r) : ∃ k, P.i_rat_over k x = some r := by
  obtain ⟨x, y, u⟩ := x
  unfold S.i_rat_over at h
  dsimp only at h
  split at h
  case isFalse => cases h
  rename_i hc
  obtain ⟨hx, hy, h0⟩ := hc
  cases h
  have hy' := lowb_iff.1 hy
  refine ⟨0, ?_⟩
  have e2 : S.i_rat_mul (x, ((y.1, (y.2.2, y.2.1)), ())) = some (rp B32 (overQ (rv B32 x) (rv B32 y)), ()) := by
    unfold S.i_rat_mul
    dsimp only
    have hz : lowb B32 100000 (y.1, (y.2.2, y.2.1)) = true := by
      rw [lowb_iff]
      obtain ⟨r1, l1⟩ := hy'
      have r2 := rok_iff.1 r1
      refine ⟨rok_iff.2 ⟨r2.2.1, r2.1, r2.2.2.2, r2.2.2.1⟩, ?_⟩
      obtain ⟨l1, l2, l3⟩ := l1
      refine ⟨Nat.pos_of_ne_zero h0, fun _ => Nat.ne_of_gt l1, ?_⟩
      rw [Nat.gcd_comm]
      exact l3
    rw [if_pos ⟨hx, hz⟩]
    rfl
  show Option.bind (S.i_rat_mul (x, ((y.1, (y.2.2, y.2.1)), ()))) (fun y0 => some (y0.1, ())) = _
  rw [e2, Option.bind_some]
theorem ri_over {x y : Q3} {m n : Nat} (hx : low x) (bx : below m x) (hy : low y) (bY : below n y) (h0 : y.2.1 ≠ 0) (hm : m ≤ 800000) (hn : n ≤ 800000) : S.i_rat_over (rp B32 x, (rp B32 y, ())) = some (rp B32 (overQ x y), ()) := by
  unfold S.i_rat_over
  dsimp only
  rw [if_pos ⟨lowb_rp9 (by decide) hx bx (by omega), lowb_rp9 (by decide) hy bY (by omega), by rw [rv_rp B32_le]; exact h0⟩, rv_rp B32_le, rv_rp B32_le]
abbrev P.i_line_upTimes_b0  (x1 : (Int × (Int × ((List (Bool × ((List Int) × (List Int)))) × (((List (Bool × ((List Int) × (List Int)))) × (List (Bool × ((List Int) × (List Int))))) × ((List (Bool × ((List Int) × (List Int)))) × Unit)))))) (g2 : (Int × (Int × ((List (Bool × ((List Int) × (List Int)))) × (((List (Bool × ((List Int) × (List Int)))) × (List (Bool × ((List Int) × (List Int))))) × ((List (Bool × ((List Int) × (List Int)))) × Unit))))) → Option ((List (Bool × ((List Int) × (List Int)))) × Unit)) : Option ((List (Bool × ((List Int) × (List Int)))) × Unit) :=
 (if ((decide (x1.1 < x1.2.1)) = true) then (if ((decide ((0 : Int) ≤ x1.1)) = true) then (if ((decide (x1.1 < (((List.length x1.2.2.1) : Nat) : Int))) = true) then (Option.bind (S.i_whole ((1 : Int) , ())) (fun (y3 : ((Bool × ((List Int) × (List Int))) × Unit)) => (if ((decide (x1.1 > (0 : Int))) = true) then (if ((decide ((0 : Int) ≤ (Go.IntKind.wrap Go.IntKind.i64 (x1.1 - (1 : Int))))) = true) then (if ((decide ((Go.IntKind.wrap Go.IntKind.i64 (x1.1 - (1 : Int))) < (((List.length x1.2.2.2.1.2) : Nat) : Int))) = true) then (if ((decide ((0 : Int) ≤ (Go.IntKind.wrap Go.IntKind.i64 (x1.1 - (1 : Int))))) = true) then (if ((decide ((Go.IntKind.wrap Go.IntKind.i64 (x1.1 - (1 : Int))) < (((List.length x1.2.2.2.2.1) : Nat) : Int))) = true) then (Option.bind (S.i_rat_mul (((List.getD x1.2.2.2.1.2 (Int.toNat (Go.IntKind.wrap Go.IntKind.i64 (x1.1 - (1 : Int)))) (false , (([] : List Int) , ([] : List Int)))).1 , ((List.getD x1.2.2.2.1.2 (Int.toNat (Go.IntKind.wrap Go.IntKind.i64 (x1.1 - (1 : Int)))) (false , (([] : List Int) , ([] : List Int)))).2.1 , (List.getD x1.2.2.2.1.2 (Int.toNat (Go.IntKind.wrap Go.IntKind.i64 (x1.1 - (1 : Int)))) (false , (([] : List Int) , ([] : List Int)))).2.2)) , (((List.getD x1.2.2.2.2.1 ((0 : Nat) + (Int.toNat (Go.IntKind.wrap Go.IntKind.i64 (x1.1 - (1 : Int))))) (false , (([] : List Int) , ([] : List Int)))).1 , ((List.getD x1.2.2.2.2.1 ((0 : Nat) + (Int.toNat (Go.IntKind.wrap Go.IntKind.i64 (x1.1 - (1 : Int))))) (false , (([] : List Int) , ([] : List Int)))).2.1 , (List.getD x1.2.2.2.2.1 ((0 : Nat) + (Int.toNat (Go.IntKind.wrap Go.IntKind.i64 (x1.1 - (1 : Int))))) (false , (([] : List Int) , ([] : List Int)))).2.2)) , ()))) (fun (y4 : ((Bool × ((List Int) × (List Int))) × Unit)) => (Option.bind (S.i_rat_add ((y3.1.1 , (y3.1.2.1 , y3.1.2.2)) , ((y4.1.1 , (y4.1.2.1 , y4.1.2.2)) , ()))) (fun (y5 : ((Bool × ((List Int) × (List Int))) × Unit)) => (Option.bind (S.i_rat_over ((y5.1.1 , (y5.1.2.1 , y5.1.2.2)) , (((List.getD x1.2.2.1 (Int.toNat x1.1) (false , (([] : List Int) , ([] : List Int)))).1 , ((List.getD x1.2.2.1 (Int.toNat x1.1) (false , (([] : List Int) , ([] : List Int)))).2.1 , (List.getD x1.2.2.1 (Int.toNat x1.1) (false , (([] : List Int) , ([] : List Int)))).2.2)) , ()))) (fun (y6 : ((Bool × ((List Int) × (List Int))) × Unit)) => (if ((decide ((((List.length x1.2.2.2.2.1) + (List.length ((y6.1.1 , (y6.1.2.1 , y6.1.2.2)) :: ([] : List (Bool × ((List Int) × (List Int))))))) * (56 : Nat)) ≤ (140737488355328 : Nat))) = true) then (g2 ((Go.IntKind.wrap Go.IntKind.i64 (x1.1 + (1 : Int))) , (x1.2.1 , (x1.2.2.1 , ((x1.2.2.2.1.1 , x1.2.2.2.1.2) , ((x1.2.2.2.2.1 ++ ((y6.1.1 , (y6.1.2.1 , y6.1.2.2)) :: ([] : List (Bool × ((List Int) × (List Int)))))) , ()))))))
 else none)))))))
 else none)
 else none)
 else none)
 else none)
 else (Option.bind (S.i_rat_over ((y3.1.1 , (y3.1.2.1 , y3.1.2.2)) , (((List.getD x1.2.2.1 (Int.toNat x1.1) (false , (([] : List Int) , ([] : List Int)))).1 , ((List.getD x1.2.2.1 (Int.toNat x1.1) (false , (([] : List Int) , ([] : List Int)))).2.1 , (List.getD x1.2.2.1 (Int.toNat x1.1) (false , (([] : List Int) , ([] : List Int)))).2.2)) , ()))) (fun (y7 : ((Bool × ((List Int) × (List Int))) × Unit)) => (if ((decide ((((List.length x1.2.2.2.2.1) + (List.length ((y7.1.1 , (y7.1.2.1 , y7.1.2.2)) :: ([] : List (Bool × ((List Int) × (List Int))))))) * (56 : Nat)) ≤ (140737488355328 : Nat))) = true) then (g2 ((Go.IntKind.wrap Go.IntKind.i64 (x1.1 + (1 : Int))) , (x1.2.1 , (x1.2.2.1 , ((x1.2.2.2.1.1 , x1.2.2.2.1.2) , ((x1.2.2.2.2.1 ++ ((y7.1.1 , (y7.1.2.1 , y7.1.2.2)) :: ([] : List (Bool × ((List Int) × (List Int)))))) , ()))))))
 else none))))))
 else none)
 else none)
 else (some (x1.2.2.2.2.1 , ())))
def P.i_line_upTimes (k : Nat) (x : (((List (Bool × ((List Int) × (List Int)))) × (List (Bool × ((List Int) × (List Int))))) × Unit)) : (Option ((List (Bool × ((List Int) × (List Int)))) × Unit)) :=
 (loopP (X := (Int × (Int × ((List (Bool × ((List Int) × (List Int)))) × (((List (Bool × ((List Int) × (List Int)))) × (List (Bool × ((List Int) × (List Int))))) × ((List (Bool × ((List Int) × (List Int)))) × Unit)))))) (R := ((List (Bool × ((List Int) × (List Int)))) × Unit)) (P.i_line_upTimes_b0 ) k ((0 : Int) , ((((List.length x.1.1) : Nat) : Int) , (x.1.1 , ((x.1.1 , x.1.2) , (([] : List (Bool × ((List Int) × (List Int)))) , ()))))))
open Classical in
def S.i_line_upTimes (x : (((List (Bool × ((List Int) × (List Int)))) × (List (Bool × ((List Int) × (List Int))))) × Unit)) : (Option ((List (Bool × ((List Int) × (List Int)))) × Unit)) := if isLine B32 x.1 then some ((upL (x.1.1.map (rv B32)) (x.1.2.map (rv B32))).map (rp B32), ()) else none
theorem S.i_line_upTimes_ok (x : (((List (Bool × ((List Int) × (List Int)))) × (List (Bool × ((List Int) × (List Int))))) × Unit)) (r : _) (h : S.i_line_upTimes x = some r) : ∃ k, P.i_line_upTimes k x = some r := by
  obtain ⟨y, u⟩ := x
  unfold S.i_line_upTimes at h
  dsimp only at h
  split at h
  case isFalse => cases h
  rename_i hc
  cases h
  obtain ⟨us, ds, rfl, hu, hd, hl, h20⟩ := hc
  obtain ⟨N, hN⟩ : ∃ N, us.length = N := ⟨_, rfl⟩
  refine ⟨N + 1, ?_⟩
  have h1 : S.i_whole (1, ()) = some (rp B32 oneQ, ()) := by rfl
  unfold P.i_line_upTimes upL
  dsimp only
  rw [map_rv B32_le, map_rv B32_le, List.length_map, hN]
  have key := loop_up0 (k := N + 1) (b := P.i_line_upTimes_b0) (n := N) (st := fun i => ((i : Int), (N : Int), us.map (rp B32), (us.map (rp B32), ds.map (rp B32)), ((List.range i).map (upF us ds)).map (rp B32), ())) (F := fun i => some (((List.range N).map (upF us ds)).map (rp B32), ())) (fun i g hi hg' => by
    have e1 : (i : Int) < (N : Int) := by omega
    have e2 : (0 : Int) ≤ (i : Int) := by omega
    have e3 : (i : Int) < ((us.map (rp B32)).length : Int) := by rw [List.length_map]; omega
    have e4 : ((((List.range i).map (upF us ds)).map (rp B32)).length + 1) * 56 ≤ 140737488355328 := by
      simp only [List.length_map, List.length_range]
      omega
    have gu := rates_get hu (show i < us.length by omega)
    unfold P.i_line_upTimes_b0
    dsimp only at hg' ⊢
    rw [if_pos (decide_eq_true e1), if_pos (decide_eq_true e2), if_pos (decide_eq_true e3), h1, Option.bind_some]
    dsimp only
    simp only [List.length_cons, List.length_nil, Nat.zero_add]
    cases i with
    | zero =>
      rw [if_neg (by simp), Int.toNat_natCast, getD_rp B32 (show 0 < us.length by omega)]
      show Option.bind (S.i_rat_over (rp B32 oneQ, (rp B32 (us.getD 0 zeroQ), ()))) _ = _
      rw [ri_over oneQ_low (oneQ_below (n := 1) (by decide)) gu.1 gu.2.1 gu.2.2.1 (by decide) (by decide), Option.bind_some]
      dsimp only
      rw [if_pos (decide_eq_true e4), wr (by omega) (by omega), ← hg', range_snoc, List.map_append]
      rfl
    | succ j =>
      have ej : ((j + 1 : Nat) : Int) > 0 := by omega
      have f1 : (0 : Int) ≤ (j : Int) := by omega
      have f2 : (j : Int) < ((ds.map (rp B32)).length : Int) := by rw [List.length_map]; omega
      have f3 : (j : Int) < ((((List.range (j + 1)).map (upF us ds)).map (rp B32)).length : Int) := by
        simp only [List.length_map, List.length_range]
        omega
      have gd := rates_get hd (show j < ds.length by omega)
      have gt := upF_ok hu hd j (by omega) (by omega)
      have l1 := mulQ_low _ _ gd.1 gt.1
      have b1 := mulQ_below gd.2.1 gt.2
      have l2 := addQ_low _ _ oneQ_low l1
      have b2 := addQ_below (oneQ_below (n := 1) (by decide)) b1
      rw [if_pos (decide_eq_true ej), wr (x := ((j + 1 : Nat) : Int) - 1) (by omega) (by omega), show ((j + 1 : Nat) : Int) - 1 = (j : Int) by omega, if_pos (decide_eq_true f1), if_pos (decide_eq_true f2), if_pos (decide_eq_true f1), if_pos (decide_eq_true f3), Int.toNat_natCast, getD_rp B32 (show j < ds.length by omega), getD_rpR B32 (show j < j + 1 by omega)]
      show Option.bind (S.i_rat_mul (rp B32 (ds.getD j zeroQ), (rp B32 (upF us ds j), ()))) _ = _
      rw [ri_mul gd.1 gd.2.1 gt.1 gt.2 (by decide) (by omega), Option.bind_some]
      show Option.bind (S.i_rat_add (rp B32 oneQ, (rp B32 (mulQ (ds.getD j zeroQ) (upF us ds j)), ()))) _ = _
      rw [ri_add oneQ_low (oneQ_below (n := 1) (by decide)) l1 b1 (by decide) (by omega), Option.bind_some]
      dsimp only
      rw [Int.toNat_natCast, getD_rp B32 (show j + 1 < us.length by omega)]
      show Option.bind (S.i_rat_over (rp B32 (addQ oneQ (mulQ (ds.getD j zeroQ) (upF us ds j))), (rp B32 (us.getD (j + 1) zeroQ), ()))) _ = _
      rw [ri_over l2 b2 gu.1 gu.2.1 gu.2.2.1 (by omega) (by decide), Option.bind_some]
      dsimp only
      rw [if_pos (decide_eq_true e4), wr (by omega) (by omega), ← hg', range_snoc _ (j + 1), List.map_append]
      rfl) (fun g => by
    unfold P.i_line_upTimes_b0
    dsimp only
    rw [if_neg (by simp)]) (by omega)
  exact key
abbrev P.i_line_downTimes_b2  (x3 : (Int × (((List (Bool × ((List Int) × (List Int)))) × (List (Bool × ((List Int) × (List Int))))) × ((List (Bool × ((List Int) × (List Int)))) × Unit)))) (g4 : (Int × (((List (Bool × ((List Int) × (List Int)))) × (List (Bool × ((List Int) × (List Int))))) × ((List (Bool × ((List Int) × (List Int)))) × Unit))) → Option ((List (Bool × ((List Int) × (List Int)))) × Unit)) : Option ((List (Bool × ((List Int) × (List Int)))) × Unit) :=
 (if ((decide (x3.1 ≥ (0 : Int))) = true) then (Option.bind (S.i_whole ((1 : Int) , ())) (fun (y5 : ((Bool × ((List Int) × (List Int))) × Unit)) => (Option.bind (S.i_line_top ((x3.2.1.1 , x3.2.1.2) , ())) (fun (y6 : (Int × Unit)) => (if ((decide ((Go.IntKind.wrap Go.IntKind.i64 (x3.1 + (1 : Int))) < y6.1)) = true) then (if ((decide ((0 : Int) ≤ (Go.IntKind.wrap Go.IntKind.i64 (x3.1 + (1 : Int))))) = true) then (if ((decide ((Go.IntKind.wrap Go.IntKind.i64 (x3.1 + (1 : Int))) < (((List.length x3.2.1.1) : Nat) : Int))) = true) then (if ((decide ((0 : Int) ≤ (Go.IntKind.wrap Go.IntKind.i64 (x3.1 + (1 : Int))))) = true) then (if ((decide ((Go.IntKind.wrap Go.IntKind.i64 (x3.1 + (1 : Int))) < (((List.length x3.2.2.1) : Nat) : Int))) = true) then (Option.bind (S.i_rat_mul (((List.getD x3.2.1.1 (Int.toNat (Go.IntKind.wrap Go.IntKind.i64 (x3.1 + (1 : Int)))) (false , (([] : List Int) , ([] : List Int)))).1 , ((List.getD x3.2.1.1 (Int.toNat (Go.IntKind.wrap Go.IntKind.i64 (x3.1 + (1 : Int)))) (false , (([] : List Int) , ([] : List Int)))).2.1 , (List.getD x3.2.1.1 (Int.toNat (Go.IntKind.wrap Go.IntKind.i64 (x3.1 + (1 : Int)))) (false , (([] : List Int) , ([] : List Int)))).2.2)) , (((List.getD x3.2.2.1 ((0 : Nat) + (Int.toNat (Go.IntKind.wrap Go.IntKind.i64 (x3.1 + (1 : Int))))) (false , (([] : List Int) , ([] : List Int)))).1 , ((List.getD x3.2.2.1 ((0 : Nat) + (Int.toNat (Go.IntKind.wrap Go.IntKind.i64 (x3.1 + (1 : Int))))) (false , (([] : List Int) , ([] : List Int)))).2.1 , (List.getD x3.2.2.1 ((0 : Nat) + (Int.toNat (Go.IntKind.wrap Go.IntKind.i64 (x3.1 + (1 : Int))))) (false , (([] : List Int) , ([] : List Int)))).2.2)) , ()))) (fun (y7 : ((Bool × ((List Int) × (List Int))) × Unit)) => (Option.bind (S.i_rat_add ((y5.1.1 , (y5.1.2.1 , y5.1.2.2)) , ((y7.1.1 , (y7.1.2.1 , y7.1.2.2)) , ()))) (fun (y8 : ((Bool × ((List Int) × (List Int))) × Unit)) => (if ((decide ((0 : Int) ≤ x3.1)) = true) then (if ((decide (x3.1 < (((List.length x3.2.1.2) : Nat) : Int))) = true) then (Option.bind (S.i_rat_over ((y8.1.1 , (y8.1.2.1 , y8.1.2.2)) , (((List.getD x3.2.1.2 (Int.toNat x3.1) (false , (([] : List Int) , ([] : List Int)))).1 , ((List.getD x3.2.1.2 (Int.toNat x3.1) (false , (([] : List Int) , ([] : List Int)))).2.1 , (List.getD x3.2.1.2 (Int.toNat x3.1) (false , (([] : List Int) , ([] : List Int)))).2.2)) , ()))) (fun (y9 : ((Bool × ((List Int) × (List Int))) × Unit)) => (if ((decide ((0 : Int) ≤ x3.1)) = true) then (if ((decide (x3.1 < (((List.length x3.2.2.1) : Nat) : Int))) = true) then (g4 ((Go.IntKind.wrap Go.IntKind.i64 (x3.1 - (1 : Int))) , ((x3.2.1.1 , x3.2.1.2) , ((List.set x3.2.2.1 ((0 : Nat) + (Int.toNat x3.1)) (y9.1.1 , (y9.1.2.1 , y9.1.2.2))) , ()))))
 else none)
 else none)))
 else none)
 else none)))))
 else none)
 else none)
 else none)
 else none)
 else (if ((decide ((0 : Int) ≤ x3.1)) = true) then (if ((decide (x3.1 < (((List.length x3.2.1.2) : Nat) : Int))) = true) then (Option.bind (S.i_rat_over ((y5.1.1 , (y5.1.2.1 , y5.1.2.2)) , (((List.getD x3.2.1.2 (Int.toNat x3.1) (false , (([] : List Int) , ([] : List Int)))).1 , ((List.getD x3.2.1.2 (Int.toNat x3.1) (false , (([] : List Int) , ([] : List Int)))).2.1 , (List.getD x3.2.1.2 (Int.toNat x3.1) (false , (([] : List Int) , ([] : List Int)))).2.2)) , ()))) (fun (y10 : ((Bool × ((List Int) × (List Int))) × Unit)) => (if ((decide ((0 : Int) ≤ x3.1)) = true) then (if ((decide (x3.1 < (((List.length x3.2.2.1) : Nat) : Int))) = true) then (g4 ((Go.IntKind.wrap Go.IntKind.i64 (x3.1 - (1 : Int))) , ((x3.2.1.1 , x3.2.1.2) , ((List.set x3.2.2.1 ((0 : Nat) + (Int.toNat x3.1)) (y10.1.1 , (y10.1.2.1 , y10.1.2.2))) , ()))))
 else none)
 else none)))
 else none)
 else none))))))
 else (some (x3.2.2.1 , ())))
def P.i_line_downTimes (k : Nat) (x : (((List (Bool × ((List Int) × (List Int)))) × (List (Bool × ((List Int) × (List Int))))) × Unit)) : (Option ((List (Bool × ((List Int) × (List Int)))) × Unit)) :=
 (Option.bind (S.i_line_top ((x.1.1 , x.1.2) , ())) (fun (y0 : (Int × Unit)) => (if ((decide ((0 : Int) ≤ y0.1)) = true) then (if ((decide (y0.1 ≤ y0.1)) = true) then (if ((decide ((y0.1 * (56 : Int)) ≤ (281474976710656 : Int))) = true) then (Option.bind (S.i_line_top ((x.1.1 , x.1.2) , ())) (fun (y1 : (Int × Unit)) => (loopP (X := (Int × (((List (Bool × ((List Int) × (List Int)))) × (List (Bool × ((List Int) × (List Int))))) × ((List (Bool × ((List Int) × (List Int)))) × Unit)))) (R := ((List (Bool × ((List Int) × (List Int)))) × Unit)) (P.i_line_downTimes_b2 ) k ((Go.IntKind.wrap Go.IntKind.i64 (y1.1 - (1 : Int))) , ((x.1.1 , x.1.2) , ((List.replicate (Int.toNat y0.1) (false , (([] : List Int) , ([] : List Int)))) , ()))))))
 else none)
 else none)
 else none)))
open Classical in
def S.i_line_downTimes (x : (((List (Bool × ((List Int) × (List Int)))) × (List (Bool × ((List Int) × (List Int))))) × Unit)) : (Option ((List (Bool × ((List Int) × (List Int)))) × Unit)) := if isLine B32 x.1 then some ((dnL (x.1.1.map (rv B32)) (x.1.2.map (rv B32))).map (rp B32), ()) else none
theorem S.i_line_downTimes_ok (x : (((List (Bool × ((List Int) × (List Int)))) × (List (Bool × ((List Int) × (List Int))))) × Unit)) (r : _) (h : S.i_line_downTimes x = some r) : ∃ k, P.i_line_downTimes k x = some r := by
  obtain ⟨y, u⟩ := x
  unfold S.i_line_downTimes at h
  dsimp only at h
  split at h
  case isFalse => cases h
  rename_i hc
  cases h
  obtain ⟨us, ds, rfl, hu, hd, hl, h20⟩ := hc
  obtain ⟨N, hN⟩ : ∃ N, us.length = N := ⟨_, rfl⟩
  refine ⟨N + 1, ?_⟩
  have h1 : S.i_whole (1, ()) = some (rp B32 oneQ, ()) := by rfl
  have key := loop_up0 (k := N + 1) (b := P.i_line_downTimes_b2) (n := N) (st := fun i => ((N : Int) - 1 - (i : Int), (us.map (rp B32), ds.map (rp B32)), List.replicate (N - i) (false, (([] : List Int), ([] : List Int))) ++ ((List.range i).map fun j => rp B32 (dnF us ds (i - 1 - j))), ())) (F := fun i => some ((List.range N).map (fun j => rp B32 (dnF us ds (N - 1 - j))), ())) (fun i g hi hg' => by
    have et : S.i_line_top ((us.map (rp B32), ds.map (rp B32)), ()) = some ((N : Int), ()) := by
      unfold S.i_line_top P.i_line_top
      dsimp only
      rw [List.length_map, hN]
    obtain ⟨m, hm⟩ : ∃ m : Nat, N = m + 1 + i := ⟨N - 1 - i, by omega⟩
    have em : (N : Int) - 1 - (i : Int) = (m : Int) := by omega
    have e0 : (m : Int) ≥ 0 := by omega
    have e1 : (0 : Int) ≤ (m : Int) := by omega
    have hlen : (List.replicate (N - i) (false, (([] : List Int), ([] : List Int))) ++ ((List.range i).map fun j => rp B32 (dnF us ds (i - 1 - j)))).length = N := by
      simp only [List.length_append, List.length_replicate, List.length_map, List.length_range]
      omega
    have e2 : (m : Int) < ((ds.map (rp B32)).length : Int) := by rw [List.length_map]; omega
    have e3 : (m : Int) < ((List.replicate (N - i) (false, (([] : List Int), ([] : List Int))) ++ ((List.range i).map fun j => rp B32 (dnF us ds (i - 1 - j)))).length : Int) := by rw [hlen]; omega
    have gd := rates_get hd (show m < ds.length by omega)
    -- what is written
    have hset : ∀ v : Q3, v = dnF us ds i → (List.replicate (N - i) (false, (([] : List Int), ([] : List Int))) ++ ((List.range i).map fun j => rp B32 (dnF us ds (i - 1 - j)))).set m (rp B32 v) = List.replicate (N - (i + 1)) (false, (([] : List Int), ([] : List Int))) ++ ((List.range (i + 1)).map fun j => rp B32 (dnF us ds (i + 1 - 1 - j))) := by
      intro v hv
      rw [show N - i = m + 1 by omega, List.replicate_succ', List.append_assoc, List.set_append_right _ _ (by simp), List.length_replicate, Nat.sub_self, show N - (i + 1) = m by omega]
      congr 1
      rw [List.range_succ_eq_map, List.map_cons, List.map_map, hv, Nat.add_sub_cancel, Nat.sub_zero]
      show rp B32 (dnF us ds i) :: _ = _
      congr 1
      refine List.map_congr_left fun j hj => ?_
      have := List.mem_range.1 hj
      show rp B32 (dnF us ds (i - 1 - j)) = rp B32 (dnF us ds (i - (j + 1)))
      rw [show i - 1 - j = i - (j + 1) by omega]
    unfold P.i_line_downTimes_b2
    dsimp only at hg' ⊢
    rw [em, if_pos (decide_eq_true e0), h1, Option.bind_some]
    rw [et, Option.bind_some]
    dsimp only
    rw [wr (x := (m : Int) + 1) (by omega) (by omega)]
    have ew : Go.IntKind.wrap Go.IntKind.i64 ((m : Int) - 1) = (N : Int) - 1 - ((i + 1 : Nat) : Int) := by
      rw [wr (by omega) (by omega)]
      omega
    cases i with
    | zero =>
      rw [if_neg (by simp; omega), if_pos (decide_eq_true e1), if_pos (decide_eq_true e2), Int.toNat_natCast, Nat.zero_add, getD_rp B32 (show m < ds.length by omega)]
      show Option.bind (S.i_rat_over (rp B32 oneQ, (rp B32 (ds.getD m zeroQ), ()))) _ = _
      rw [ri_over oneQ_low (oneQ_below (n := 1) (by decide)) gd.1 gd.2.1 gd.2.2.1 (by decide) (by decide), Option.bind_some]
      dsimp only
      rw [if_pos (decide_eq_true e1), if_pos (decide_eq_true e3), ew, ← hg', ← hset _ (show overQ oneQ (ds.getD m zeroQ) = _ by unfold dnF; rw [show ds.length - 1 = m by omega])]
    | succ j =>
      have f0 : (m : Int) + 1 < (N : Int) := by omega
      have f1 : (0 : Int) ≤ (m : Int) + 1 := by omega
      have f2 : (m : Int) + 1 < ((us.map (rp B32)).length : Int) := by rw [List.length_map]; omega
      have f3 : (m : Int) + 1 < ((List.replicate (N - (j + 1)) (false, (([] : List Int), ([] : List Int))) ++ ((List.range (j + 1)).map fun q => rp B32 (dnF us ds (j + 1 - 1 - q)))).length : Int) := by rw [hlen]; omega
      have gu := rates_get hu (show m + 1 < us.length by omega)
      have gt := dnF_ok hu hd hl j (by omega)
      have l1 := mulQ_low _ _ gu.1 gt.1
      have b1 := mulQ_below gu.2.1 gt.2
      have l2 := addQ_low _ _ oneQ_low l1
      have b2 := addQ_below (oneQ_below (n := 1) (by decide)) b1
      have hget : (List.replicate (N - (j + 1)) (false, (([] : List Int), ([] : List Int))) ++ ((List.range (j + 1)).map fun q => rp B32 (dnF us ds (j + 1 - 1 - q)))).getD (m + 1) (false, (([] : List Int), ([] : List Int))) = rp B32 (dnF us ds j) := by
        rw [List.getD_eq_getElem?_getD, List.getElem?_append_right (by simp; omega), List.length_replicate, show m + 1 - (N - (j + 1)) = 0 by omega, List.getElem?_map, List.getElem?_range (by omega)]
        rfl
      rw [if_pos (decide_eq_true f0), if_pos (decide_eq_true f1), if_pos (decide_eq_true f2), if_pos (decide_eq_true f1), if_pos (decide_eq_true f3), Nat.zero_add, show ((m : Int) + 1).toNat = m + 1 by omega, hget, getD_rp B32 (show m + 1 < us.length by omega)]
      show Option.bind (S.i_rat_mul (rp B32 (us.getD (m + 1) zeroQ), (rp B32 (dnF us ds j), ()))) _ = _
      rw [ri_mul gu.1 gu.2.1 gt.1 gt.2 (by decide) (by omega), Option.bind_some]
      show Option.bind (S.i_rat_add (rp B32 oneQ, (rp B32 (mulQ (us.getD (m + 1) zeroQ) (dnF us ds j)), ()))) _ = _
      rw [ri_add oneQ_low (oneQ_below (n := 1) (by decide)) l1 b1 (by decide) (by omega), Option.bind_some]
      dsimp only
      rw [if_pos (decide_eq_true e1), if_pos (decide_eq_true e2), Int.toNat_natCast, getD_rp B32 (show m < ds.length by omega)]
      show Option.bind (S.i_rat_over (rp B32 (addQ oneQ (mulQ (us.getD (m + 1) zeroQ) (dnF us ds j))), (rp B32 (ds.getD m zeroQ), ()))) _ = _
      rw [ri_over l2 b2 gd.1 gd.2.1 gd.2.2.1 (by omega) (by decide), Option.bind_some]
      dsimp only
      rw [if_pos (decide_eq_true e1), if_pos (decide_eq_true e3), Nat.zero_add, ew, ← hg', ← hset _ (show overQ (addQ oneQ (mulQ (us.getD (m + 1) zeroQ) (dnF us ds j))) (ds.getD m zeroQ) = dnF us ds (j + 1) by rw [dnF, show ds.length - 1 - j = m + 1 by omega, show ds.length - 2 - j = m by omega])]) (fun g => by
    unfold P.i_line_downTimes_b2
    dsimp only
    rw [if_neg (by simp only [decide_eq_true_eq]; omega), Nat.sub_self, List.replicate_zero, List.nil_append]) (by omega)
  unfold P.i_line_downTimes dnL
  dsimp only
  rw [map_rv B32_le, map_rv B32_le, hN, List.map_map]
  have et : S.i_line_top ((us.map (rp B32), ds.map (rp B32)), ()) = some ((N : Int), ()) := by
    unfold S.i_line_top P.i_line_top
    dsimp only
    rw [List.length_map, hN]
  rw [et, Option.bind_some]
  dsimp only
  rw [if_pos (decide_eq_true (show (0 : Int) ≤ (N : Int) by omega)), if_pos (by simp), if_pos (decide_eq_true (show (N : Int) * 56 ≤ 281474976710656 by omega)), Option.bind_some, wr (by omega) (by omega), Int.toNat_natCast]
  have k2 := key
  simp only [List.range_zero, List.map_nil, List.append_nil, Nat.sub_zero] at k2
  rw [show (N : Int) - 1 - ((0 : Nat) : Int) = (N : Int) - 1 by omega] at k2
  exact k2
def P.i_TimeBetween (k : Nat) (x : (((List ByteArray) × (List ByteArray)) × (Int × (Int × Unit)))) : (Option ((ByteArray × Bool) × Unit)) :=
 (Option.bind (S.i_lineOf ((x.1.1 , x.1.2) , ())) (fun (y0 : ((((List (Bool × ((List Int) × (List Int)))) × (List (Bool × ((List Int) × (List Int))))) × Bool) × Unit)) => (if ((!y0.1.2) = true) then (some (((bs []) , false) , ()))
 else (Option.bind (S.i_line_top ((y0.1.1.1 , y0.1.1.2) , ())) (fun (y1 : (Int × Unit)) => (Option.bind (S.i_in (x.2.1 , ((0 : Int) , (y1.1 , ())))) (fun (y2 : (Bool × Unit)) => (if ((!y2.1) = true) then (some (((bs []) , false) , ()))
 else (Option.bind (S.i_line_top ((y0.1.1.1 , y0.1.1.2) , ())) (fun (y3 : (Int × Unit)) => (Option.bind (S.i_in (x.2.2.1 , ((0 : Int) , (y3.1 , ())))) (fun (y4 : (Bool × Unit)) => (if ((!y4.1) = true) then (some (((bs []) , false) , ()))
 else (if ((decide (x.2.1 ≤ x.2.2.1)) = true) then (Option.bind (S.i_line_upTimes ((y0.1.1.1 , y0.1.1.2) , ())) (fun (y5 : ((List (Bool × ((List Int) × (List Int)))) × Unit)) => (if ((decide ((0 : Int) ≤ x.2.2.1)) = true) then (if ((decide (x.2.2.1 ≤ (((List.length y5.1) : Nat) : Int))) = true) then (if ((decide ((0 : Int) ≤ x.2.1)) = true) then (if ((decide (x.2.1 ≤ x.2.2.1)) = true) then (Option.bind (S.i_sum ((seen y5.1 (Int.toNat x.2.1) ((Int.toNat x.2.2.1) - (Int.toNat x.2.1))) , ())) (fun (y6 : ((Bool × ((List Int) × (List Int))) × Unit)) => (Option.bind (S.i_told ((y6.1.1 , (y6.1.2.1 , y6.1.2.2)) , ())) (fun (y7 : ((ByteArray × Bool) × Unit)) => (some ((y7.1.1 , y7.1.2) , ()))))))
 else none)
 else none)
 else none)
 else none)))
 else (Option.bind (S.i_line_downTimes ((y0.1.1.1 , y0.1.1.2) , ())) (fun (y8 : ((List (Bool × ((List Int) × (List Int)))) × Unit)) => (if ((decide ((0 : Int) ≤ x.2.1)) = true) then (if ((decide (x.2.1 ≤ (((List.length y8.1) : Nat) : Int))) = true) then (if ((decide ((0 : Int) ≤ x.2.2.1)) = true) then (if ((decide (x.2.2.1 ≤ x.2.1)) = true) then (Option.bind (S.i_sum ((seen y8.1 (Int.toNat x.2.2.1) ((Int.toNat x.2.1) - (Int.toNat x.2.2.1))) , ())) (fun (y9 : ((Bool × ((List Int) × (List Int))) × Unit)) => (Option.bind (S.i_told ((y9.1.1 , (y9.1.2.1 , y9.1.2.2)) , ())) (fun (y10 : ((ByteArray × Bool) × Unit)) => (some ((y10.1.1 , y10.1.2) , ()))))))
 else none)
 else none)
 else none)
 else none)))))))))))))))))
def S.i_TimeBetween (x : (((List ByteArray) × (List ByteArray)) × (Int × (Int × Unit)))) : (Option ((ByteArray × Bool) × Unit)) := P.i_TimeBetween 0 x
theorem S.i_TimeBetween_ok (x : (((List ByteArray) × (List ByteArray)) × (Int × (Int × Unit)))) (r : _) (h : S.i_TimeBetween x = some r) : ∃ k, P.i_TimeBetween k x = some r := ⟨0, h⟩
def P.l_FnExactTimeBetween (k : Nat) (x : (((List ByteArray) × (List ByteArray)) × (Int × (Int × Unit)))) : (Option (Bool × Unit)) :=
 (Option.bind (S.l_szLine ((x.1.1 , x.1.2) , ((1000000 : Int) , ()))) (fun (y0 : (Int × Unit)) => (if ((decide (y0.1 < (0 : Int))) = true) then (some (true , ()))
 else (Option.bind (S.l_toLine ((x.1.1 , x.1.2) , (false , ()))) (fun (y1 : ((((List ByteArray) × Nat) × ((List ByteArray) × Nat)) × Unit)) => (Option.bind (S.s_TimeBetween (((List.take y1.1.1.2 y1.1.1.1) , (List.take y1.1.2.2 y1.1.2.1)) , (x.2.1 , (x.2.2.1 , ())))) (fun (y2 : ((ByteArray × Bool) × Unit)) => (Option.bind (S.l_toLine ((x.1.1 , x.1.2) , (false , ()))) (fun (y3 : ((((List ByteArray) × Nat) × ((List ByteArray) × Nat)) × Unit)) => (Option.bind (S.i_TimeBetween (((List.take y3.1.1.2 y3.1.1.1) , (List.take y3.1.2.2 y3.1.2.1)) , (x.2.1 , (x.2.2.1 , ())))) (fun (y4 : ((ByteArray × Bool) × Unit)) => (if ((!((ByteArray.toList y4.1.1) == (ByteArray.toList y2.1.1))) = true) then (some (false , ()))
 else (if ((!(y4.1.2 == y2.1.2)) = true) then (some (false , ()))
 else (Option.bind (S.l_toLine ((x.1.1 , x.1.2) , (false , ()))) (fun (y5 : ((((List ByteArray) × Nat) × ((List ByteArray) × Nat)) × Unit)) => (Option.bind (S.l_intactLine (((y3.1.1.1 , y3.1.1.2) , (y3.1.2.1 , y3.1.2.2)) , (((y5.1.1.1 , y5.1.1.2) , (y5.1.2.1 , y5.1.2.2)) , ()))) (fun (y6 : (Bool × Unit)) => (if ((!y6.1) = true) then (some (false , ()))
 else (Option.bind (S.l_toLine ((x.1.1 , x.1.2) , (true , ()))) (fun (y7 : ((((List ByteArray) × Nat) × ((List ByteArray) × Nat)) × Unit)) => (Option.bind (S.i_TimeBetween (((List.take y7.1.1.2 y7.1.1.1) , (List.take y7.1.2.2 y7.1.2.1)) , (x.2.1 , (x.2.2.1 , ())))) (fun (y8 : ((ByteArray × Bool) × Unit)) => (if ((!((ByteArray.toList y8.1.1) == (ByteArray.toList y2.1.1))) = true) then (some (false , ()))
 else (if ((!(y8.1.2 == y2.1.2)) = true) then (some (false , ()))
 else (some (true , ()))))))))))))))))))))))))))
def S.l_FnExactTimeBetween (x : (((List ByteArray) × (List ByteArray)) × (Int × (Int × Unit)))) : (Option (Bool × Unit)) := P.l_FnExactTimeBetween 0 x
theorem S.l_FnExactTimeBetween_ok (x : (((List ByteArray) × (List ByteArray)) × (Int × (Int × Unit)))) (r : _) (h : S.l_FnExactTimeBetween x = some r) : ∃ k, P.l_FnExactTimeBetween k x = some r := ⟨0, h⟩
end Go.Cm
end
