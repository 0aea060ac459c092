import Derived.Test.YtcbgagohjjdfeaaDoorCmZI
set_option linter.unusedVariables false
set_option maxRecDepth 100000
noncomputable section
namespace Go.Cm
def P.l_roomBehind (k : Nat) (x : (Int × Unit)) : (Option (Int × Unit)) :=
 (if (((Int.tmod x.1 (6 : Int)) == (5 : Int)) = true) then (some ((0 : Int) , ()))
 else (if (((Int.tmod x.1 (3 : Int)) == (0 : Int)) = true) then (some ((1 : Int) , ()))
 else (some (x.1 , ()))))
def S.l_roomBehind (x : (Int × Unit)) : (Option (Int × Unit)) := P.l_roomBehind 0 x
theorem S.l_roomBehind_ok (x : (Int × Unit)) (r : _) (h : S.l_roomBehind x = some r) : ∃ k, P.l_roomBehind k x = some r := ⟨0, h⟩
abbrev P.l_toInt64S_b4  (x5 : (Int × ((List Int) × ((List Int) × Unit)))) (g6 : (Int × ((List Int) × ((List Int) × Unit))) → Option (((List Int) × Nat) × Unit)) : Option (((List Int) × Nat) × Unit) :=
 (if ((decide (x5.1 < (((List.length x5.2.1) : Nat) : Int))) = true) then (if ((decide ((0 : Int) ≤ x5.1)) = true) then (if ((decide (x5.1 < (((List.length x5.2.1) : Nat) : Int))) = true) then (g6 ((Go.IntKind.wrap Go.IntKind.i64 (x5.1 + (1 : Int))) , ((List.set x5.2.1 ((0 : Nat) + (Int.toNat x5.1)) (-7000000000000000101 : Int)) , (x5.2.2.1 , ()))))
 else none)
 else none)
 else (if ((decide ((0 : Int) ≤ (((List.length x5.2.2.1) : Nat) : Int))) = true) then (if ((decide (((((List.length x5.2.2.1) : Nat) : Int) + (0 : Int)) ≤ (((List.length x5.2.1) : Nat) : Int))) = true) then (if ((decide ((0 : Int) ≤ (((List.length x5.2.2.1) : Nat) : Int))) = true) then (some (((List.drop (0 : Nat) x5.2.1) , ((Int.toNat (((List.length x5.2.2.1) : Nat) : Int)) - (0 : Nat))) , ()))
 else none)
 else none)
 else none))
abbrev P.l_toInt64S_b1 (k : Nat) (x2 : (Int × ((List Int) × ((List Int) × Unit)))) (g3 : (Int × ((List Int) × ((List Int) × Unit))) → Option (((List Int) × Nat) × Unit)) : Option (((List Int) × Nat) × Unit) :=
 (if ((decide (x2.1 < (((List.length x2.2.1) : Nat) : Int))) = true) then (if ((decide ((0 : Int) ≤ x2.1)) = true) then (if ((decide (x2.1 < (((List.length x2.2.1) : Nat) : Int))) = true) then (if ((decide ((0 : Int) ≤ x2.1)) = true) then (if ((decide (x2.1 < (((List.length x2.2.2.1) : Nat) : Int))) = true) then (g3 ((Go.IntKind.wrap Go.IntKind.i64 (x2.1 + (1 : Int))) , (x2.2.1 , ((List.set x2.2.2.1 ((0 : Nat) + (Int.toNat x2.1)) (List.getD x2.2.1 (Int.toNat x2.1) (0 : Int))) , ()))))
 else none)
 else none)
 else none)
 else none)
 else (loopP (X := (Int × ((List Int) × ((List Int) × Unit)))) (R := (((List Int) × Nat) × Unit)) (P.l_toInt64S_b4 ) k ((((List.length x2.2.1) : Nat) : Int) , (x2.2.2.1 , (x2.2.1 , ())))))
abbrev P.l_toInt64S_b11  (x12 : (Int × ((List Int) × ((List Int) × Unit)))) (g13 : (Int × ((List Int) × ((List Int) × Unit))) → Option (((List Int) × Nat) × Unit)) : Option (((List Int) × Nat) × Unit) :=
 (if ((decide (x12.1 < (((List.length x12.2.1) : Nat) : Int))) = true) then (if ((decide ((0 : Int) ≤ x12.1)) = true) then (if ((decide (x12.1 < (((List.length x12.2.1) : Nat) : Int))) = true) then (g13 ((Go.IntKind.wrap Go.IntKind.i64 (x12.1 + (1 : Int))) , ((List.set x12.2.1 ((0 : Nat) + (Int.toNat x12.1)) (-7000000000000000101 : Int)) , (x12.2.2.1 , ()))))
 else none)
 else none)
 else (if ((decide ((0 : Int) ≤ (((List.length x12.2.2.1) : Nat) : Int))) = true) then (if ((decide (((((List.length x12.2.2.1) : Nat) : Int) + (0 : Int)) ≤ (((List.length x12.2.1) : Nat) : Int))) = true) then (if ((decide ((0 : Int) ≤ (((List.length x12.2.2.1) : Nat) : Int))) = true) then (some (((List.drop (0 : Nat) x12.2.1) , ((Int.toNat (((List.length x12.2.2.1) : Nat) : Int)) - (0 : Nat))) , ()))
 else none)
 else none)
 else none))
abbrev P.l_toInt64S_b8 (k : Nat) (x9 : (Int × ((List Int) × ((List Int) × Unit)))) (g10 : (Int × ((List Int) × ((List Int) × Unit))) → Option (((List Int) × Nat) × Unit)) : Option (((List Int) × Nat) × Unit) :=
 (if ((decide (x9.1 < (((List.length x9.2.1) : Nat) : Int))) = true) then (if ((decide ((0 : Int) ≤ x9.1)) = true) then (if ((decide (x9.1 < (((List.length x9.2.1) : Nat) : Int))) = true) then (if ((decide ((0 : Int) ≤ x9.1)) = true) then (if ((decide (x9.1 < (((List.length x9.2.2.1) : Nat) : Int))) = true) then (g10 ((Go.IntKind.wrap Go.IntKind.i64 (x9.1 + (1 : Int))) , (x9.2.1 , ((List.set x9.2.2.1 ((0 : Nat) + (Int.toNat x9.1)) (List.getD x9.2.1 (Int.toNat x9.1) (0 : Int))) , ()))))
 else none)
 else none)
 else none)
 else none)
 else (loopP (X := (Int × ((List Int) × ((List Int) × Unit)))) (R := (((List Int) × Nat) × Unit)) (P.l_toInt64S_b11 ) k ((((List.length x9.2.1) : Nat) : Int) , (x9.2.2.1 , (x9.2.1 , ())))))
def P.l_toInt64S (k : Nat) (x : ((List Int) × (Bool × Unit))) : (Option (((List Int) × Nat) × Unit)) :=
 (if (x.2.1 = true) then (if (((((List.length x.1) : Nat) : Int) == (0 : Int)) = true) then (some ((([] : List Int) , 0) , ()))
 else (Option.bind (S.l_roomBehind ((((List.length x.1) : Nat) : Int) , ())) (fun (y0 : (Int × Unit)) => (if ((decide ((0 : Int) ≤ (Go.IntKind.wrap Go.IntKind.i64 ((((List.length x.1) : Nat) : Int) + y0.1)))) = true) then (if ((decide ((Go.IntKind.wrap Go.IntKind.i64 ((((List.length x.1) : Nat) : Int) + y0.1)) ≤ (Go.IntKind.wrap Go.IntKind.i64 ((((List.length x.1) : Nat) : Int) + y0.1)))) = true) then (if ((decide (((Go.IntKind.wrap Go.IntKind.i64 ((((List.length x.1) : Nat) : Int) + y0.1)) * (8 : Int)) ≤ (281474976710656 : Int))) = true) then (loopP (X := (Int × ((List Int) × ((List Int) × Unit)))) (R := (((List Int) × Nat) × Unit)) (P.l_toInt64S_b1 k) k ((0 : Int) , (x.1 , ((List.replicate (Int.toNat (Go.IntKind.wrap Go.IntKind.i64 ((((List.length x.1) : Nat) : Int) + y0.1))) (0 : Int)) , ()))))
 else none)
 else none)
 else none))))
 else (Option.bind (S.l_roomBehind ((((List.length x.1) : Nat) : Int) , ())) (fun (y7 : (Int × Unit)) => (if ((decide ((0 : Int) ≤ (Go.IntKind.wrap Go.IntKind.i64 ((((List.length x.1) : Nat) : Int) + y7.1)))) = true) then (if ((decide ((Go.IntKind.wrap Go.IntKind.i64 ((((List.length x.1) : Nat) : Int) + y7.1)) ≤ (Go.IntKind.wrap Go.IntKind.i64 ((((List.length x.1) : Nat) : Int) + y7.1)))) = true) then (if ((decide (((Go.IntKind.wrap Go.IntKind.i64 ((((List.length x.1) : Nat) : Int) + y7.1)) * (8 : Int)) ≤ (281474976710656 : Int))) = true) then (loopP (X := (Int × ((List Int) × ((List Int) × Unit)))) (R := (((List Int) × Nat) × Unit)) (P.l_toInt64S_b8 k) k ((0 : Int) , (x.1 , ((List.replicate (Int.toNat (Go.IntKind.wrap Go.IntKind.i64 ((((List.length x.1) : Nat) : Int) + y7.1))) (0 : Int)) , ()))))
 else none)
 else none)
 else none))))
def fillI : Int := -7000000000000000101
def S.l_toInt64S (x : ((List Int) × (Bool × Unit))) : (Option (((List Int) × Nat) × Unit)) := if x.1.length ≤ 1000000 then some (tos fillI x.2.1 x.1, ()) else none
theorem toInt64S_b4 (xs : List Int) (m n k : Nat) (h : n = xs.length) (hl : n ≤ 1000000) (hm : m ≤ n + 1) (hk : m < k) :
    loopP P.l_toInt64S_b4 k ((n : Int), xs ++ List.replicate m 0, xs, ()) = some ((xs ++ List.replicate m fillI, n), ()) := by
  have key := loop_up0 (b := P.l_toInt64S_b4) (n := m) (st := fun i => (((n + i : Nat) : Int), (xs ++ List.replicate i fillI) ++ List.replicate (m - i) 0, xs, ())) (F := fun i => some ((xs ++ List.replicate m fillI, n), ())) (fun i g hi hg => by
    unfold P.l_toInt64S_b4
    dsimp only at hg ⊢
    have hlen : ((xs ++ List.replicate i fillI) ++ List.replicate (m - i) 0).length = n + m := by simp; omega
    simp only [hlen]
    have e1 : ((n + i : Nat) : Int) < ((n + m : Nat) : Int) := by omega
    have e2 : (0 : Int) ≤ ((n + i : Nat) : Int) := by omega
    simp only [e1, e2, decide_true, if_true]
    rw [wr (by omega) (by omega), ← hg]
    congr 1
    have e3 : m - i = (m - (i + 1)) + 1 := by omega
    have e4 : (0 + ((n + i : Nat) : Int).toNat) = (xs ++ List.replicate i fillI).length := by rw [List.length_append, List.length_replicate]; omega
    rw [e3, e4, set_fill]
    simp only [List.replicate_succ', ← List.append_assoc, fillI]
    rfl) (fun g => by
    unfold P.l_toInt64S_b4
    dsimp only
    have hlen : ((xs ++ List.replicate m fillI) ++ List.replicate (m - m) 0).length = n + m := by simp; omega
    simp only [hlen]
    have e1 : ¬ ((n + m : Nat) : Int) < ((n + m : Nat) : Int) := by omega
    have e2 : (0 : Int) ≤ (xs.length : Int) := by omega
    have e3 : (xs.length : Int) + 0 ≤ ((n + m : Nat) : Int) := by omega
    simp only [e1, e2, e3, decide_true, decide_false, if_true, Bool.false_eq_true, if_false]
    simp [h]) hk
  simpa using key
theorem toInt64S_b1 (k0 : Nat) (xs : List Int) (m k : Nat) (hl : xs.length ≤ 1000000) (hm : m ≤ xs.length + 1) (hk0 : m < k0) (hk : xs.length < k) :
    loopP (P.l_toInt64S_b1 k0) k ((0 : Int), xs, List.replicate (xs.length + m) 0, ()) = some ((xs ++ List.replicate m fillI, xs.length), ()) := by
  have key := loop_up0 (b := P.l_toInt64S_b1 k0) (n := xs.length) (st := fun i => ((i : Int), xs, xs.take i ++ List.replicate (xs.length - i + m) 0, ())) (F := fun i => some ((xs ++ List.replicate m fillI, xs.length), ())) (fun i g hi hg => by
    unfold P.l_toInt64S_b1
    dsimp only at hg ⊢
    have hlen : (xs.take i ++ List.replicate (xs.length - i + m) 0).length = xs.length + m := by simp; omega
    simp only [hlen]
    have e1 : (i : Int) < (xs.length : Int) := by omega
    have e1' : (i : Int) < ((xs.length + m : Nat) : Int) := by omega
    have e2 : (0 : Int) ≤ (i : Int) := by omega
    simp only [e1, e1', e2, decide_true, if_true]
    rw [wr (by omega) (by omega), getD_cast xs i _ hi, ← hg]
    congr 1
    have e3 : xs.length - i + m = (xs.length - (i + 1) + m) + 1 := by omega
    have e4 : (0 + (i : Int).toNat) = (xs.take i).length := by simp; omega
    rw [e3, e4, set_fill]
    simp) (fun g => by
    unfold P.l_toInt64S_b1
    dsimp only
    have e1 : ¬ (xs.length : Int) < (xs.length : Int) := by omega
    simp only [e1, decide_false, Bool.false_eq_true, if_false]
    have := toInt64S_b4 xs m xs.length k0 rfl hl hm hk0
    simpa using this) hk
  simpa using key
theorem S.l_toInt64S_ok (x : ((List Int) × (Bool × Unit))) (r : _) (h : S.l_toInt64S x = some r) : ∃ k, P.l_toInt64S k x = some r := by
  obtain ⟨xs, bare, u⟩ := x
  unfold S.l_toInt64S at h
  dsimp only at h
  split at h
  case isFalse => cases h
  rename_i hl
  cases h
  refine ⟨xs.length + 2, ?_⟩
  have hr := rb_le xs.length
  have go : (Option.bind (S.l_roomBehind ((((List.length xs) : Nat) : Int) , ())) (fun (y0 : (Int × Unit)) => (if ((decide ((0 : Int) ≤ (Go.IntKind.wrap Go.IntKind.i64 ((((List.length xs) : Nat) : Int) + y0.1)))) = true) then (if ((decide ((Go.IntKind.wrap Go.IntKind.i64 ((((List.length xs) : Nat) : Int) + y0.1)) ≤ (Go.IntKind.wrap Go.IntKind.i64 ((((List.length xs) : Nat) : Int) + y0.1)))) = true) then (if ((decide (((Go.IntKind.wrap Go.IntKind.i64 ((((List.length xs) : Nat) : Int) + y0.1)) * (8 : Int)) ≤ (281474976710656 : Int))) = true) then (loopP (X := (Int × ((List Int) × ((List Int) × Unit)))) (R := (((List Int) × Nat) × Unit)) (P.l_toInt64S_b1 (xs.length + 2)) (xs.length + 2) ((0 : Int) , (xs , ((List.replicate (Int.toNat (Go.IntKind.wrap Go.IntKind.i64 ((((List.length xs) : Nat) : Int) + y0.1))) (0 : Int)) , ()))))
 else none)
 else none)
 else none))) = some ((xs ++ List.replicate (rb xs.length).toNat fillI, xs.length), ()) := by
    have e0 : S.l_roomBehind ((xs.length : Int), ()) = some (rb xs.length, ()) := by
      unfold S.l_roomBehind P.l_roomBehind rb
      simp only [beq_iff_eq]
      split
      · rfl
      · split <;> rfl
    rw [e0, Option.bind_some]
    dsimp only
    rw [wr (by omega) (by omega)]
    have e1 : (0 : Int) ≤ (xs.length : Int) + rb xs.length := by omega
    have e2 : (xs.length : Int) + rb xs.length ≤ (xs.length : Int) + rb xs.length := by omega
    have e3 : ((xs.length : Int) + rb xs.length) * 8 ≤ 281474976710656 := by omega
    simp only [e1, e2, e3, decide_true, if_true]
    have e4 : ((xs.length : Int) + rb xs.length).toNat = xs.length + (rb xs.length).toNat := by omega
    rw [e4]
    exact toInt64S_b1 _ xs _ _ hl (by omega) (by omega) (by omega)
  unfold P.l_toInt64S tos
  dsimp only
  cases bare with
  | true =>
    simp only [if_true]
    by_cases hx : xs = []
    · subst hx; rfl
    · have hx' : ¬ ((((xs.length : Nat) : Int) == 0) = true) := by
        simp [hx]
      rw [if_neg hx', if_neg (by simp [hx])]
      exact go
  | false =>
    simp only [Bool.false_eq_true, if_false, false_and]
    exact go
abbrev P.l_eqInt64S_b0  (x1 : (Int × ((List Int) × ((List Int) × Unit)))) (g2 : (Int × ((List Int) × ((List Int) × Unit))) → Option (Bool × Unit)) : Option (Bool × Unit) :=
 (if ((decide (x1.1 < (((List.length x1.2.1) : Nat) : Int))) = true) then (if ((decide ((0 : Int) ≤ x1.1)) = true) then (if ((decide (x1.1 < (((List.length x1.2.1) : Nat) : Int))) = true) then (if ((decide ((0 : Int) ≤ x1.1)) = true) then (if ((decide (x1.1 < (((List.length x1.2.2.1) : Nat) : Int))) = true) then (if (((List.getD x1.2.1 (Int.toNat x1.1) (0 : Int)) != (List.getD x1.2.2.1 (Int.toNat x1.1) (0 : Int))) = true) then (some (false , ()))
 else (g2 ((Go.IntKind.wrap Go.IntKind.i64 (x1.1 + (1 : Int))) , (x1.2.1 , (x1.2.2.1 , ())))))
 else none)
 else none)
 else none)
 else none)
 else (some (true , ())))
def P.l_eqInt64S (k : Nat) (x : ((List Int) × ((List Int) × Unit))) : (Option (Bool × Unit)) :=
 (if (((((List.length x.1) : Nat) : Int) != (((List.length x.2.1) : Nat) : Int)) = true) then (some (false , ()))
 else (loopP (X := (Int × ((List Int) × ((List Int) × Unit)))) (R := (Bool × Unit)) (P.l_eqInt64S_b0 ) k ((0 : Int) , (x.1 , (x.2.1 , ())))))
theorem eqI_len {xs ys : List Int} (h : xs.length ≠ ys.length) : (xs == ys) = false := by
  rw [beq_eq_false_iff_ne]
  intro e
  exact h (congrArg List.length e)
theorem eqI_drop {xs ys : List Int} {i : Nat} (hx : i < xs.length) (hy : i < ys.length) : (xs.drop i == ys.drop i) = ((xs[i] == ys[i]) && (xs.drop (i + 1) == ys.drop (i + 1))) := by
  rw [List.drop_eq_getElem_cons hx, List.drop_eq_getElem_cons hy]
  rfl
def S.l_eqInt64S (x : ((List Int) × ((List Int) × Unit))) : (Option (Bool × Unit)) := if x.1.length ≤ 9223372036854775807 then some ((x.1 == x.2.1), ()) else none
theorem S.l_eqInt64S_ok (x : ((List Int) × ((List Int) × Unit))) (r : _) (h : S.l_eqInt64S x = some r) : ∃ k, P.l_eqInt64S k x = some r := by
  obtain ⟨xs, ys, u⟩ := x
  unfold S.l_eqInt64S at h
  dsimp only at h
  split at h
  case isFalse => cases h
  rename_i hc
  cases h
  refine ⟨xs.length + 1, ?_⟩
  unfold P.l_eqInt64S
  dsimp only
  by_cases hl : xs.length = ys.length
  · have e0 : ((xs.length : Int) != (ys.length : Int)) = false := by simp [hl]
    rw [if_neg (by rw [e0]; simp)]
    have := loop_up0 (b := P.l_eqInt64S_b0) (n := xs.length) (st := fun i => ((i : Int), xs, ys, ())) (F := fun i => some (((xs.drop i) == (ys.drop i)), ())) (fun i g hi hg => by
      have hy : i < ys.length := by omega
      unfold P.l_eqInt64S_b0
      dsimp only at hg ⊢
      have e1 : (i : Int) < (xs.length : Int) := by omega
      have e1' : (i : Int) < (ys.length : Int) := by omega
      have e2 : (0 : Int) ≤ (i : Int) := by omega
      simp only [e1, e1', e2, decide_true, if_true]
      rw [getD_cast xs i _ hi, getD_cast ys i _ hy, wr (x := (i : Int) + 1) (by omega) (by omega), eqI_drop hi hy]
      by_cases hq : (xs[i] == ys[i]) = true
      · simp only [bne, hq, Bool.not_true, Bool.false_eq_true, if_false, Bool.true_and]
        exact hg
      · have hq' : (xs[i] == ys[i]) = false := by simpa using hq
        simp only [bne, hq', Bool.not_false, if_true, Bool.false_and]) (fun g => by
      unfold P.l_eqInt64S_b0
      have e1 : ¬ ((xs.length : Int) < (xs.length : Int)) := by omega
      simp only [e1, decide_false, Bool.false_eq_true, if_false]
      rw [List.drop_length, hl, List.drop_length]
      rfl) (Nat.lt_succ_self _)
    simpa using this
  · rw [if_pos (by simp; omega), eqI_len hl]
def P.l_intactInt64S (k : Nat) (x : (((List Int) × Nat) × (((List Int) × Nat) × Unit))) : (Option (Bool × Unit)) :=
 (Option.bind (S.l_roomBehind (((x.2.1.2 : Nat) : Int) , ())) (fun (y0 : (Int × Unit)) => (if ((((x.1.2 : Nat) : Int) == ((x.2.1.2 : Nat) : Int)) = true) then (if ((decide ((0 : Int) ≤ (Go.IntKind.wrap Go.IntKind.i64 (((x.2.1.2 : Nat) : Int) + y0.1)))) = true) then (if ((decide ((Go.IntKind.wrap Go.IntKind.i64 (((x.2.1.2 : Nat) : Int) + y0.1)) ≤ (((List.length x.1.1) : Nat) : Int))) = true) then (if ((decide ((0 : Int) ≤ (Go.IntKind.wrap Go.IntKind.i64 (((x.2.1.2 : Nat) : Int) + y0.1)))) = true) then (if ((decide ((0 : Int) ≤ (Go.IntKind.wrap Go.IntKind.i64 (((x.2.1.2 : Nat) : Int) + y0.1)))) = true) then (if ((decide ((Go.IntKind.wrap Go.IntKind.i64 (((x.2.1.2 : Nat) : Int) + y0.1)) ≤ (((List.length x.2.1.1) : Nat) : Int))) = true) then (if ((decide ((0 : Int) ≤ (Go.IntKind.wrap Go.IntKind.i64 (((x.2.1.2 : Nat) : Int) + y0.1)))) = true) then (Option.bind (S.l_eqInt64S ((seen x.1.1 (0 : Nat) ((Int.toNat (Go.IntKind.wrap Go.IntKind.i64 (((x.2.1.2 : Nat) : Int) + y0.1))) - (0 : Nat))) , ((seen x.2.1.1 (0 : Nat) ((Int.toNat (Go.IntKind.wrap Go.IntKind.i64 (((x.2.1.2 : Nat) : Int) + y0.1))) - (0 : Nat))) , ()))) (fun (y1 : (Bool × Unit)) => (some (y1.1 , ()))))
 else none)
 else none)
 else none)
 else none)
 else none)
 else none)
 else (some (false , ())))))
def S.l_intactInt64S (x : (((List Int) × Nat) × (((List Int) × Nat) × Unit))) : (Option (Bool × Unit)) := P.l_intactInt64S 0 x
theorem S.l_intactInt64S_ok (x : (((List Int) × Nat) × (((List Int) × Nat) × Unit))) (r : _) (h : S.l_intactInt64S x = some r) : ∃ k, P.l_intactInt64S k x = some r := ⟨0, h⟩
def P.s_l00In (k : Nat) (x : (Int × (Int × (Int × Unit)))) : (Option (Bool × Unit)) :=
 (if ((decide (x.1 ≥ x.2.1)) = true) then (some ((decide (x.1 ≤ x.2.2.1)) , ()))
 else (some (false , ())))
def S.s_l00In (x : (Int × (Int × (Int × Unit)))) : (Option (Bool × Unit)) := P.s_l00In 0 x
theorem S.s_l00In_ok (x : (Int × (Int × (Int × Unit)))) (r : _) (h : S.s_l00In x = some r) : ∃ k, P.s_l00In k x = some r := ⟨0, h⟩
abbrev P.s_l01Few_b0  (x1 : (Int × ((List Int) × Unit))) (g2 : (Int × ((List Int) × Unit)) → Option (Bool × Unit)) : Option (Bool × Unit) :=
 (if ((decide (x1.1 < (((List.length x1.2.1) : Nat) : Int))) = true) then (if ((decide ((0 : Int) ≤ x1.1)) = true) then (if ((decide (x1.1 < (((List.length x1.2.1) : Nat) : Int))) = true) then (Option.bind (S.s_l00In ((List.getD x1.2.1 (Int.toNat x1.1) (0 : Int)) , ((-1000000000 : Int) , ((1000000000 : Int) , ())))) (fun (y3 : (Bool × Unit)) => (if ((!y3.1) = true) then (some (false , ()))
 else (g2 ((Go.IntKind.wrap Go.IntKind.i64 (x1.1 + (1 : Int))) , (x1.2.1 , ()))))))
 else none)
 else none)
 else (some ((decide ((((List.length x1.2.1) : Nat) : Int) ≤ (300 : Int))) , ())))
def P.s_l01Few (k : Nat) (x : ((List Int) × Unit)) : (Option (Bool × Unit)) :=
 (loopP (X := (Int × ((List Int) × Unit))) (R := (Bool × Unit)) (P.s_l01Few_b0 ) k ((0 : Int) , (x.1 , ())))
/-- A number that is not too great. -/
def inB (n : Int) : Bool := decide (-1000000000 ≤ n ∧ n ≤ 1000000000)
theorem inB_iff (n : Int) : inB n = true ↔ -1000000000 ≤ n ∧ n ≤ 1000000000 := by simp [inB]
theorem in_s (n : Int) : S.s_l00In (n, -1000000000, 1000000000, ()) = some (inB n, ()) := by
  unfold S.s_l00In P.s_l00In inB
  dsimp only
  by_cases h : n ≥ -1000000000
  · rw [if_pos (by simpa using h)]
    have : -1000000000 ≤ n := h
    simp [this]
  · rw [if_neg (by simpa using h)]
    have : ¬ -1000000000 ≤ n := h
    simp [this]
def S.s_l01Few (x : ((List Int) × Unit)) : (Option (Bool × Unit)) := if x.1.length ≤ 9223372036854775806 then some ((x.1.all inB && decide (x.1.length ≤ 300)), ()) else none
theorem S.s_l01Few_ok (x : ((List Int) × Unit)) (r : _) (h : S.s_l01Few x = some r) : ∃ k, P.s_l01Few k x = some r := by
  obtain ⟨xs, u⟩ := x
  unfold S.s_l01Few at h
  dsimp only at h
  split at h
  case isFalse => cases h
  rename_i hc
  cases h
  refine ⟨xs.length + 1, ?_⟩
  unfold P.s_l01Few
  dsimp only
  have := loop_up0 (k := xs.length + 1) (b := P.s_l01Few_b0) (n := xs.length) (st := fun i => ((i : Int), xs, ())) (F := fun i => some (((xs.drop i).all inB && decide (xs.length ≤ 300)), ())) (fun i g hi hg => by
    unfold P.s_l01Few_b0
    dsimp only at hg ⊢
    have e1 : (i : Int) < (xs.length : Int) := by omega
    have e2 : (0 : Int) ≤ (i : Int) := by omega
    simp only [e1, e2, decide_true, if_true]
    rw [getD_cast xs i _ hi, in_s, Option.bind_some, wr (x := (i : Int) + 1) (by omega) (by omega), List.drop_eq_getElem_cons hi, List.all_cons]
    cases hq : inB xs[i]
    · simp
    · simp only [Bool.not_true, Bool.false_eq_true, if_false, Bool.true_and]
      exact hg) (fun g => by
    unfold P.s_l01Few_b0
    have e1 : ¬ ((xs.length : Int) < (xs.length : Int)) := by omega
    simp only [e1, decide_false, Bool.false_eq_true, if_false]
    rw [List.drop_length, List.all_nil, Bool.true_and]
    have : decide ((xs.length : Int) ≤ 300) = decide (xs.length ≤ 300) := by
      by_cases h : xs.length ≤ 300
      · rw [decide_eq_true h, decide_eq_true (by omega)]
      · rw [decide_eq_false h, decide_eq_false (by omega)]
    rw [this]) (by omega)
  exact this
abbrev P.s_l01Dec_b0  (x1 : ((List Int) × (Int × (Int × Unit)))) (g2 : ((List Int) × (Int × (Int × Unit))) → Option (ByteArray × Unit)) : Option (ByteArray × Unit) :=
 (if (((((List.length x1.1) : Nat) : Int) == (0 : Int)) = true) then (if ((decide ((Int.tmod x1.2.1 (10 : Int)) < (0 : Int))) = true) then (if ((decide ((((List.length ((Go.IntKind.wrap Go.IntKind.u8 (Go.IntKind.wrap Go.IntKind.i64 ((48 : Int) + (Go.IntKind.wrap Go.IntKind.i64 ((0 : Int) - (Int.tmod x1.2.1 (10 : Int))))))) :: ([] : List Int))) + (List.length x1.1)) * (1 : Nat)) ≤ (140737488355328 : Nat))) = true) then (g2 ((((Go.IntKind.wrap Go.IntKind.u8 (Go.IntKind.wrap Go.IntKind.i64 ((48 : Int) + (Go.IntKind.wrap Go.IntKind.i64 ((0 : Int) - (Int.tmod x1.2.1 (10 : Int))))))) :: ([] : List Int)) ++ x1.1) , ((Go.IntKind.wrap Go.IntKind.i64 (Int.tdiv x1.2.1 (10 : Int))) , (x1.2.2.1 , ()))))
 else none)
 else (if ((decide ((((List.length ((Go.IntKind.wrap Go.IntKind.u8 (Go.IntKind.wrap Go.IntKind.i64 ((48 : Int) + (Int.tmod x1.2.1 (10 : Int))))) :: ([] : List Int))) + (List.length x1.1)) * (1 : Nat)) ≤ (140737488355328 : Nat))) = true) then (g2 ((((Go.IntKind.wrap Go.IntKind.u8 (Go.IntKind.wrap Go.IntKind.i64 ((48 : Int) + (Int.tmod x1.2.1 (10 : Int))))) :: ([] : List Int)) ++ x1.1) , ((Go.IntKind.wrap Go.IntKind.i64 (Int.tdiv x1.2.1 (10 : Int))) , (x1.2.2.1 , ()))))
 else none))
 else (if ((x1.2.1 != (0 : Int)) = true) then (if ((decide ((Int.tmod x1.2.1 (10 : Int)) < (0 : Int))) = true) then (if ((decide ((((List.length ((Go.IntKind.wrap Go.IntKind.u8 (Go.IntKind.wrap Go.IntKind.i64 ((48 : Int) + (Go.IntKind.wrap Go.IntKind.i64 ((0 : Int) - (Int.tmod x1.2.1 (10 : Int))))))) :: ([] : List Int))) + (List.length x1.1)) * (1 : Nat)) ≤ (140737488355328 : Nat))) = true) then (g2 ((((Go.IntKind.wrap Go.IntKind.u8 (Go.IntKind.wrap Go.IntKind.i64 ((48 : Int) + (Go.IntKind.wrap Go.IntKind.i64 ((0 : Int) - (Int.tmod x1.2.1 (10 : Int))))))) :: ([] : List Int)) ++ x1.1) , ((Go.IntKind.wrap Go.IntKind.i64 (Int.tdiv x1.2.1 (10 : Int))) , (x1.2.2.1 , ()))))
 else none)
 else (if ((decide ((((List.length ((Go.IntKind.wrap Go.IntKind.u8 (Go.IntKind.wrap Go.IntKind.i64 ((48 : Int) + (Int.tmod x1.2.1 (10 : Int))))) :: ([] : List Int))) + (List.length x1.1)) * (1 : Nat)) ≤ (140737488355328 : Nat))) = true) then (g2 ((((Go.IntKind.wrap Go.IntKind.u8 (Go.IntKind.wrap Go.IntKind.i64 ((48 : Int) + (Int.tmod x1.2.1 (10 : Int))))) :: ([] : List Int)) ++ x1.1) , ((Go.IntKind.wrap Go.IntKind.i64 (Int.tdiv x1.2.1 (10 : Int))) , (x1.2.2.1 , ()))))
 else none))
 else (if ((decide (x1.2.2.1 < (0 : Int))) = true) then (if ((decide ((((1 : Nat) + (List.length x1.1)) * (1 : Nat)) ≤ (140737488355328 : Nat))) = true) then (some ((strOf (((45 : Int) :: ([] : List Int)) ++ x1.1)) , ()))
 else none)
 else (some ((strOf x1.1) , ())))))
def P.s_l01Dec (k : Nat) (x : (Int × Unit)) : (Option (ByteArray × Unit)) :=
 (loopP (X := ((List Int) × (Int × (Int × Unit)))) (R := (ByteArray × Unit)) (P.s_l01Dec_b0 ) k (([] : List Int) , (x.1 , (x.1 , ()))))
/-- A number's digits, as Go's bytes. -/
def digI (u : Nat) : List Int := (Go.Lib.decDigits u).map fun b => (b.toNat : Int)
theorem digI_small {u : Nat} (h : u < 10) : digI u = [48 + (u : Int)] := by
  unfold digI
  rw [Go.Lib.decDigits, dif_pos h]
  simp only [List.map_cons, List.map_nil, List.cons.injEq, and_true]
  rw [UInt8.toNat_ofNat']
  omega
theorem digI_step {u : Nat} (h : ¬ u < 10) : digI u = digI (u / 10) ++ [48 + ((u % 10 : Nat) : Int)] := by
  unfold digI
  rw [Go.Lib.decDigits, dif_neg h, List.map_append]
  simp only [List.map_cons, List.map_nil]
  rw [UInt8.toNat_ofNat']
  congr 2
  omega
theorem digI_len (u : Nat) : (digI u).length ≤ u + 1 := by
  induction u using Nat.strongRecOn with
  | ind u ih =>
    by_cases h : u < 10
    · rw [digI_small h]; simp
    · rw [digI_step h, List.length_append]
      have := ih (u / 10) (by omega)
      simp
      omega
theorem strOf_map (l : List UInt8) : strOf (l.map fun b => (b.toNat : Int)) = ⟨l.toArray⟩ := by
  unfold strOf
  rw [List.map_map]
  have : ((fun n : Int => UInt8.ofNat n.toNat) ∘ fun b : UInt8 => (b.toNat : Int)) = id := by
    funext b
    simp
  rw [this, List.map_id]
theorem wr8 {x : Int} (h0 : 0 ≤ x) (h1 : x ≤ 255) : Go.IntKind.wrap Go.IntKind.u8 x = x := by
  show x % 256 = x
  omega
def sgn (neg : Bool) (u : Nat) : Int := if neg = true then -(u : Int) else (u : Int)
theorem sgn_tmod (neg : Bool) (u : Nat) : Int.tmod (sgn neg u) 10 = sgn neg (u % 10) := by
  cases neg
  · show Int.tmod (u : Int) 10 = ((u % 10 : Nat) : Int)
    rw [Int.tmod_eq_emod_of_nonneg (by omega)]
    omega
  · show Int.tmod (-(u : Int)) 10 = -((u % 10 : Nat) : Int)
    rw [Int.neg_tmod, Int.tmod_eq_emod_of_nonneg (by omega)]
    omega
theorem sgn_tdiv (neg : Bool) (u : Nat) : Int.tdiv (sgn neg u) 10 = sgn neg (u / 10) := by
  cases neg
  · show Int.tdiv (u : Int) 10 = ((u / 10 : Nat) : Int)
    rw [Int.tdiv_eq_ediv_of_nonneg (by omega)]
    omega
  · show Int.tdiv (-(u : Int)) 10 = -((u / 10 : Nat) : Int)
    rw [Int.neg_tdiv, Int.tdiv_eq_ediv_of_nonneg (by omega)]
    omega
/-- One round writes one digit. -/
theorem dec_round (neg : Bool) (u : Nat) (n : Int) (out : List Int) (g : ((List Int) × (Int × (Int × Unit))) → Option (ByteArray × Unit)) (hu : u ≤ 9223372036854775808) (hs : neg = false → u ≤ 9223372036854775807) (ho : out.length ≤ 1000) (hc : out = [] ∨ u ≠ 0) :
    P.s_l01Dec_b0 (out, sgn neg u, n, ()) g = g ((48 + ((u % 10 : Nat) : Int)) :: out, sgn neg (u / 10), n, ()) := by
  have hw : Go.IntKind.wrap Go.IntKind.i64 (sgn neg (u / 10)) = sgn neg (u / 10) := by
    apply wr <;> unfold sgn <;> split <;> omega
  have hA : ∀ (a b : Option (ByteArray × Unit)), (if ((decide (sgn neg (u % 10) < (0 : Int))) = true) then a else b) = (if (sgn neg (u % 10) < 0) then a else b) := by
    intro a b
    by_cases h : sgn neg (u % 10) < 0 <;> simp [h]
  have hneg : sgn neg (u % 10) < 0 → Go.IntKind.wrap Go.IntKind.i64 ((0 : Int) - sgn neg (u % 10)) = ((u % 10 : Nat) : Int) := by
    intro h
    unfold sgn at h ⊢
    split at h
    · rename_i hn
      rw [if_pos hn, wr (by omega) (by omega)]
      omega
    · omega
  have hpos : ¬ sgn neg (u % 10) < 0 → sgn neg (u % 10) = ((u % 10 : Nat) : Int) := by
    intro h
    unfold sgn at h ⊢
    split at h
    · rename_i hn
      rw [if_pos hn]
      omega
    · rename_i hn
      rw [if_neg hn]
  have hch : Go.IntKind.wrap Go.IntKind.u8 (Go.IntKind.wrap Go.IntKind.i64 ((48 : Int) + ((u % 10 : Nat) : Int))) = 48 + ((u % 10 : Nat) : Int) := by
    rw [wr (by omega) (by omega), wr8 (by omega) (by omega)]
  have hlen : ∀ c : Int, ((List.length (c :: ([] : List Int)) + List.length out) * 1 ≤ 140737488355328) := by
    intro c
    simp
    omega
  unfold P.s_l01Dec_b0
  dsimp only
  have hu0 : u ≠ 0 → sgn neg u ≠ 0 := by
    intro h
    unfold sgn
    split <;> omega
  simp only [hA, sgn_tmod, sgn_tdiv, hw]
  have hin : ∀ X Y : Option (ByteArray × Unit), (sgn neg (u % 10) < 0 → X = g ((48 + ((u % 10 : Nat) : Int)) :: out, sgn neg (u / 10), n, ())) → (¬ sgn neg (u % 10) < 0 → Y = g ((48 + ((u % 10 : Nat) : Int)) :: out, sgn neg (u / 10), n, ())) →
      (if sgn neg (u % 10) < 0 then X else Y) = g ((48 + ((u % 10 : Nat) : Int)) :: out, sgn neg (u / 10), n, ()) := by
    intro X Y h1 h2
    split
    · exact h1 (by assumption)
    · exact h2 (by assumption)
  have key : (if sgn neg (u % 10) < 0 then (if ((decide (((List.length ((Go.IntKind.wrap Go.IntKind.u8 (Go.IntKind.wrap Go.IntKind.i64 ((48 : Int) + (Go.IntKind.wrap Go.IntKind.i64 ((0 : Int) - sgn neg (u % 10)))))) :: ([] : List Int)) + (List.length out)) * (1 : Nat)) ≤ (140737488355328 : Nat))) = true) then (g ((((Go.IntKind.wrap Go.IntKind.u8 (Go.IntKind.wrap Go.IntKind.i64 ((48 : Int) + (Go.IntKind.wrap Go.IntKind.i64 ((0 : Int) - sgn neg (u % 10)))))) :: ([] : List Int)) ++ out) , (sgn neg (u / 10) , (n , ())))) else none)
      else (if ((decide (((List.length ((Go.IntKind.wrap Go.IntKind.u8 (Go.IntKind.wrap Go.IntKind.i64 ((48 : Int) + sgn neg (u % 10)))) :: ([] : List Int)) + (List.length out)) * (1 : Nat)) ≤ (140737488355328 : Nat))) = true) then (g ((((Go.IntKind.wrap Go.IntKind.u8 (Go.IntKind.wrap Go.IntKind.i64 ((48 : Int) + sgn neg (u % 10)))) :: ([] : List Int)) ++ out) , (sgn neg (u / 10) , (n , ())))) else none)) = g ((48 + ((u % 10 : Nat) : Int)) :: out, sgn neg (u / 10), n, ()) := by
    refine hin _ _ (fun h => ?_) (fun h => ?_)
    · rw [if_pos (decide_eq_true (hlen _)), hneg h, hch]
      rfl
    · rw [if_pos (decide_eq_true (hlen _)), hpos h, hch]
      rfl
  rcases hc with rfl | hc
  · rw [if_pos (by rfl)]
    exact key
  · by_cases ho' : ((((List.length out) : Nat) : Int) == (0 : Int)) = true
    · rw [if_pos ho']
      exact key
    · rw [if_neg ho', if_pos (by simpa using hu0 hc)]
      exact key
theorem dec_end (neg : Bool) (n : Int) (out : List Int) (g : ((List Int) × (Int × (Int × Unit))) → Option (ByteArray × Unit)) (ho : out.length ≤ 1000) (hc : out ≠ []) :
    P.s_l01Dec_b0 (out, sgn neg 0, n, ()) g = some (strOf (if n < 0 then 45 :: out else out), ()) := by
  unfold P.s_l01Dec_b0
  dsimp only
  have h0 : sgn neg 0 = 0 := by cases neg <;> rfl
  rw [if_neg (by simpa using hc), h0, if_neg (by decide)]
  by_cases hn : n < 0
  · rw [if_pos (decide_eq_true hn), if_pos (decide_eq_true (by omega)), if_pos hn]
    rfl
  · rw [if_neg (by simpa using hn), if_neg hn]
theorem dec_loop (neg : Bool) (n : Int) : ∀ (u : Nat) (out : List Int) (k : Nat), u ≠ 0 → u ≤ 9223372036854775808 → (neg = false → u ≤ 9223372036854775807) → out.length + u.log2 ≤ 900 → u.log2 + 2 ≤ k →
    loopP P.s_l01Dec_b0 k (out, sgn neg u, n, ()) = some (strOf (if n < 0 then 45 :: (digI u ++ out) else digI u ++ out), ()) := by
  intro u
  induction u using Nat.strongRecOn with
  | ind u ih =>
    intro out k h0 hu hs ho hk
    obtain ⟨k, rfl⟩ : ∃ j, k = j + 1 := ⟨k - 1, by omega⟩
    rw [loopP_succ, dec_round neg u n out _ hu hs (by omega) (.inr h0)]
    by_cases h : u < 10
    · have e : u / 10 = 0 := by omega
      obtain ⟨k, rfl⟩ : ∃ j, k = j + 1 := ⟨k - 1, by omega⟩
      rw [e, loopP_succ, dec_end neg n _ _ (by simp; omega) (by simp), digI_small h, Nat.mod_eq_of_lt h]
      rfl
    · have hl : (u / 10).log2 + 1 ≤ u.log2 := by
        have h2 : u / 10 ≠ 0 := by omega
        have a1 : 2 ^ (u / 10).log2 ≤ u / 10 := Nat.log2_self_le h2
        have a2 : 2 ^ ((u / 10).log2 + 1) ≤ u := by rw [Nat.pow_succ]; omega
        exact (Nat.le_log2 h0).2 a2
      rw [ih (u / 10) (by omega) _ k (by omega) (by omega) (fun hn => by have := hs hn; omega) (by simp; omega) (by omega), digI_step h]
      simp
def S.s_l01Dec (x : (Int × Unit)) : (Option (ByteArray × Unit)) := if -9223372036854775808 ≤ x.1 ∧ x.1 ≤ 9223372036854775807 then some (⟨(Go.Lib.itoa x.1).toArray⟩, ()) else none
theorem S.s_l01Dec_ok (x : (Int × Unit)) (r : _) (h : S.s_l01Dec x = some r) : ∃ k, P.s_l01Dec k x = some r := by
  obtain ⟨n, u⟩ := x
  unfold S.s_l01Dec at h
  dsimp only at h
  split at h
  case isFalse => cases h
  rename_i hn
  cases h
  refine ⟨200, ?_⟩
  unfold P.s_l01Dec
  dsimp only
  have hsg : ∃ neg, n = sgn neg n.natAbs ∧ (neg = true ↔ n < 0) := by
    by_cases h : n < 0
    · exact ⟨true, by unfold sgn; simp; omega, by simp [h]⟩
    · exact ⟨false, by unfold sgn; simp; omega, by simp [h]⟩
  obtain ⟨neg, h1, h2⟩ := hsg
  have hfin : strOf (if n < 0 then 45 :: digI n.natAbs else digI n.natAbs) = ⟨(Go.Lib.itoa n).toArray⟩ := by
    unfold Go.Lib.itoa digI
    split
    · rw [← strOf_map]
      rfl
    · rw [← strOf_map]
      have : n.natAbs = n.toNat := by omega
      rw [this]
  by_cases h0 : n.natAbs = 0
  · have hn0 : n = 0 := by omega
    subst hn0
    have e0 : (0 : Int) = sgn false 0 := rfl
    show loopP P.s_l01Dec_b0 (198 + 1 + 1) ([], 0, 0, ()) = _
    rw [loopP_succ]
    conv => lhs; rw [show (([] : List Int), (0 : Int), (0 : Int), ()) = ([], sgn false 0, 0, ()) from rfl]
    rw [dec_round false 0 0 [] _ (by omega) (by omega) (by simp) (.inl rfl), loopP_succ, show 0 / 10 = 0 from rfl, dec_end false 0 _ _ (by simp) (by simp), ← hfin]
    rw [show (0 : Int).natAbs = 0 from rfl, digI_small (by omega)]
  · have hb : n.natAbs ≤ 9223372036854775808 := by omega
    have hl : n.natAbs.log2 ≤ 64 := by
      have : n.natAbs.log2 < 65 := (Nat.log2_lt h0).2 (by omega)
      omega
    have := dec_loop neg n n.natAbs [] 200 h0 hb (fun hf => by
      have : ¬ n < 0 := fun h => by rw [h2.2 h] at hf; cases hf
      omega) (by simp; omega) (by omega)
    rw [← h1] at this
    rw [this, List.append_nil, hfin]
abbrev P.s_l01Text_b1  (x2 : (Int × ((List Int) × (ByteArray × Unit)))) (g3 : (Int × ((List Int) × (ByteArray × Unit))) → Option (ByteArray × Unit)) : Option (ByteArray × Unit) :=
 (if ((decide (x2.1 < (((List.length x2.2.1) : Nat) : Int))) = true) then (if ((decide ((0 : Int) ≤ x2.1)) = true) then (if ((decide (x2.1 < (((List.length x2.2.1) : Nat) : Int))) = true) then (Option.bind (S.s_l01Dec ((List.getD x2.2.1 (Int.toNat x2.1) (0 : Int)) , ())) (fun (y4 : (ByteArray × Unit)) => (if ((decide (((1 : Nat) + (ByteArray.size y4.1)) ≤ (9223372036854775807 : Nat))) = true) then (if ((decide (((ByteArray.size x2.2.2.1) + (ByteArray.size ((bs [44]) ++ y4.1))) ≤ (9223372036854775807 : Nat))) = true) then (g3 ((Go.IntKind.wrap Go.IntKind.i64 (x2.1 + (1 : Int))) , (x2.2.1 , ((x2.2.2.1 ++ ((bs [44]) ++ y4.1)) , ()))))
 else none)
 else none)))
 else none)
 else none)
 else (some (x2.2.2.1 , ())))
def P.s_l01Text (k : Nat) (x : ((List Int) × Unit)) : (Option (ByteArray × Unit)) :=
 (if (((((List.length x.1) : Nat) : Int) == (0 : Int)) = true) then (some ((bs [110, 111, 110, 101]) , ()))
 else (if ((decide ((0 : Int) < (((List.length x.1) : Nat) : Int))) = true) then (Option.bind (S.s_l01Dec ((List.getD x.1 (0 : Nat) (0 : Int)) , ())) (fun (y0 : (ByteArray × Unit)) => (loopP (X := (Int × ((List Int) × (ByteArray × Unit)))) (R := (ByteArray × Unit)) (P.s_l01Text_b1 ) k ((1 : Int) , (x.1 , (y0.1 , ()))))))
 else none))
theorem decDigits_len (u : Nat) : (Go.Lib.decDigits u).length ≤ u.log2 + 1 := by
  induction u using Nat.strongRecOn with
  | ind u ih =>
    rw [Go.Lib.decDigits]
    split
    · simp
    · rename_i h
      have h2 : u / 10 ≠ 0 := by omega
      have a1 : 2 ^ (u / 10).log2 ≤ u / 10 := Nat.log2_self_le h2
      have a2 : 2 ^ ((u / 10).log2 + 1) ≤ u := by rw [Nat.pow_succ]; omega
      have a3 := (Nat.le_log2 (by omega)).2 a2
      have := ih (u / 10) (by omega)
      simp
      omega
theorem itoa_len (n : Int) (h : -9223372036854775808 ≤ n ∧ n ≤ 9223372036854775807) : (Go.Lib.itoa n).length ≤ 66 := by
  have hl : ∀ u : Nat, u ≤ 9223372036854775808 → u.log2 ≤ 64 := by
    intro u hu
    by_cases h0 : u = 0
    · subst h0; simp
    · have : u.log2 < 65 := (Nat.log2_lt h0).2 (by omega)
      omega
  unfold Go.Lib.itoa
  split
  · have := decDigits_len n.natAbs
    have := hl n.natAbs (by omega)
    simp
    omega
  · have := decDigits_len n.toNat
    have := hl n.toNat (by omega)
    omega
/-- What stands behind a list's first number. -/
def ltail (xs : List Int) : List UInt8 := (xs.map fun y => 44 :: Go.Lib.itoa y).flatten
/-- A list's text. -/
def ltx : List Int → List UInt8
  | [] => [110, 111, 110, 101]
  | x :: r => Go.Lib.itoa x ++ ltail r
theorem dec_eq (n : Int) (h : inB n = true) : S.s_l01Dec (n, ()) = some (⟨(Go.Lib.itoa n).toArray⟩, ()) := by
  rw [inB_iff] at h
  unfold S.s_l01Dec
  dsimp only
  rw [if_pos (by omega)]
theorem ba_append (a b : List UInt8) : (⟨a.toArray⟩ : ByteArray) ++ ⟨b.toArray⟩ = ⟨(a ++ b).toArray⟩ := by
  apply ByteArray.ext
  simp
theorem bs44 : bs [44] = ⟨([44] : List UInt8).toArray⟩ := rfl
theorem ba_size (a : List UInt8) : (⟨a.toArray⟩ : ByteArray).size = a.length := by simp [ByteArray.size]
def S.s_l01Text (x : ((List Int) × Unit)) : (Option (ByteArray × Unit)) := if x.1.all inB = true ∧ x.1.length ≤ 300 then some (⟨(ltx x.1).toArray⟩, ()) else none
theorem S.s_l01Text_ok (x : ((List Int) × Unit)) (r : _) (h : S.s_l01Text x = some r) : ∃ k, P.s_l01Text k x = some r := by
  obtain ⟨xs, u⟩ := x
  unfold S.s_l01Text at h
  dsimp only at h
  split at h
  case isFalse => cases h
  rename_i hc
  obtain ⟨hin, hl⟩ := hc
  cases h
  refine ⟨400, ?_⟩
  unfold P.s_l01Text
  dsimp only
  match xs, hin, hl with
  | [], _, _ => rfl
  | x :: r, hin, hl =>
    simp only [List.all_cons, Bool.and_eq_true] at hin
    obtain ⟨hx, hr⟩ := hin
    rw [if_neg (by simp; omega), if_pos (decide_eq_true (by simp))]
    rw [show List.getD (x :: r) 0 0 = x from rfl, dec_eq x hx, Option.bind_some]
    have hlen : ∀ i, i ≤ r.length → (ltail (r.take i)).length ≤ i * 67 := by
      intro i
      induction i with
      | zero => intro _; simp [ltail]
      | succ i ih =>
        intro hi
        have h1 := ih (by omega)
        have hy : inB r[i] = true := List.all_eq_true.1 hr _ (List.getElem_mem (by omega))
        rw [inB_iff] at hy
        have h2 := itoa_len r[i] (by omega)
        rw [← List.take_append_getElem (show i < r.length by omega)]
        unfold ltail at h1 ⊢
        rw [List.map_append, List.flatten_append, List.length_append]
        simp
        simp at h1
        omega
    have hx2 : (Go.Lib.itoa x).length ≤ 66 := by rw [inB_iff] at hx; exact itoa_len x (by omega)
    have key := loop_up (b := P.s_l01Text_b1) (n := r.length) (st := fun i => (((i + 1 : Nat) : Int), x :: r, (⟨(Go.Lib.itoa x ++ ltail (r.take i)).toArray⟩ : ByteArray), ())) (F := fun i => some (⟨(Go.Lib.itoa x ++ ltail r).toArray⟩, ())) (fun i g hi hg => by
      unfold P.s_l01Text_b1
      dsimp only at hg ⊢
      have hy : inB r[i] = true := List.all_eq_true.1 hr _ (List.getElem_mem hi)
      have hy2 : (Go.Lib.itoa r[i]).length ≤ 66 := by rw [inB_iff] at hy; exact itoa_len _ (by omega)
      have e1 : ((i + 1 : Nat) : Int) < ((x :: r).length : Int) := by simp; omega
      have e2 : (0 : Int) ≤ ((i + 1 : Nat) : Int) := by omega
      have e3 : List.getD (x :: r) (Int.toNat ((i + 1 : Nat) : Int)) 0 = r[i] := by
        rw [Int.toNat_natCast]
        simp [hi]
      simp only [e1, e2, decide_true, if_true]
      rw [e3, dec_eq _ hy, Option.bind_some]
      dsimp only
      have hl2 := hlen i (by omega)
      simp only [List.length_cons] at hl
      rw [bs44, ba_append, ba_size, ba_size, ba_size, if_pos (decide_eq_true (by omega)), if_pos (decide_eq_true (by simp; omega)), ba_append, wr (by omega) (by omega)]
      have e4 : Go.Lib.itoa x ++ ltail (r.take i) ++ ([44] ++ Go.Lib.itoa r[i]) = Go.Lib.itoa x ++ ltail (r.take (i + 1)) := by
        rw [← List.take_append_getElem hi]
        unfold ltail
        rw [List.map_append, List.flatten_append]
        simp
      rw [e4]
      exact hg) (fun g => by
      unfold P.s_l01Text_b1
      dsimp only
      have e1 : ¬ ((r.length + 1 : Nat) : Int) < ((x :: r).length : Int) := by simp
      simp only [e1, decide_false, Bool.false_eq_true, if_false]
      rw [List.take_length]) r.length 0 400 (by omega) (by simp at hl; omega)
    have e5 : Go.Lib.itoa x ++ ltail (r.take 0) = Go.Lib.itoa x := by simp [ltail]
    simp only [e5] at key
    exact key
def P.s_ListText (k : Nat) (x : ((List Int) × Unit)) : (Option ((ByteArray × Bool) × Unit)) :=
 (Option.bind (S.s_l01Few (x.1 , ())) (fun (y0 : (Bool × Unit)) => (if ((!y0.1) = true) then (some (((bs []) , false) , ()))
 else (Option.bind (S.s_l01Text (x.1 , ())) (fun (y1 : (ByteArray × Unit)) => (some ((y1.1 , true) , ())))))))
def S.s_ListText (x : ((List Int) × Unit)) : (Option ((ByteArray × Bool) × Unit)) := P.s_ListText 0 x
theorem S.s_ListText_ok (x : ((List Int) × Unit)) (r : _) (h : S.s_ListText x = some r) : ∃ k, P.s_ListText k x = some r := ⟨0, h⟩
def P.i_in (k : Nat) (x : (Int × (Int × (Int × Unit)))) : (Option (Bool × Unit)) :=
 (if ((decide (x.1 ≥ x.2.1)) = true) then (some ((decide (x.1 ≤ x.2.2.1)) , ()))
 else (some (false , ())))
def S.i_in (x : (Int × (Int × (Int × Unit)))) : (Option (Bool × Unit)) := P.i_in 0 x
theorem S.i_in_ok (x : (Int × (Int × (Int × Unit)))) (r : _) (h : S.i_in x = some r) : ∃ k, P.i_in k x = some r := ⟨0, h⟩
def S.strconv_FormatInt (x : (Int × (Int × Unit))) : (Option (ByteArray × Unit)) := if x.2.1 = 10 ∧ -9223372036854775808 ≤ x.1 ∧ x.1 ≤ 9223372036854775807 then some (⟨(Go.Lib.itoa x.1).toArray⟩, ()) else none
def P.i_Decimal (k : Nat) (x : (Int × Unit)) : (Option (ByteArray × Unit)) :=
 (Option.bind (S.strconv_FormatInt (x.1 , ((10 : Int) , ()))) (fun (y0 : (ByteArray × Unit)) => (some (y0.1 , ()))))
def S.i_Decimal (x : (Int × Unit)) : (Option (ByteArray × Unit)) := P.i_Decimal 0 x
theorem S.i_Decimal_ok (x : (Int × Unit)) (r : _) (h : S.i_Decimal x = some r) : ∃ k, P.i_Decimal k x = some r := ⟨0, h⟩
/-- The length of what is joined. -/
def joinB (xs : List ByteArray) (sep : ByteArray) : List UInt8 := Go.Lib.join (xs.map (·.data.toList)) sep.data.toList
def S.strings_Join (x : ((List ByteArray) × (ByteArray × Unit))) : (Option (ByteArray × Unit)) := if x.1.length ≤ 140737488355328 ∧ (joinB x.1 x.2.1).length ≤ 140737488355328 then some (⟨(joinB x.1 x.2.1).toArray⟩, ()) else none
def P.i_joined (k : Nat) (x : ((List ByteArray) × Unit)) : (Option (ByteArray × Unit)) :=
 (if (((((List.length x.1) : Nat) : Int) == (0 : Int)) = true) then (some ((bs [110, 111, 110, 101]) , ()))
 else (Option.bind (S.strings_Join (x.1 , ((bs [44]) , ()))) (fun (y0 : (ByteArray × Unit)) => (some (y0.1 , ())))))
def S.i_joined (x : ((List ByteArray) × Unit)) : (Option (ByteArray × Unit)) := P.i_joined 0 x
theorem S.i_joined_ok (x : ((List ByteArray) × Unit)) (r : _) (h : S.i_joined x = some r) : ∃ k, P.i_joined k x = some r := ⟨0, h⟩
abbrev P.i_ListText_b0  (x1 : (Int × (Int × ((List Int) × ((List ByteArray) × Unit))))) (g2 : (Int × (Int × ((List Int) × ((List ByteArray) × Unit)))) → Option ((ByteArray × Bool) × Unit)) : Option ((ByteArray × Bool) × Unit) :=
 (if ((decide (x1.1 < x1.2.1)) = true) then (if ((decide ((0 : Int) ≤ x1.1)) = true) then (if ((decide (x1.1 < (((List.length x1.2.2.1) : Nat) : Int))) = true) then (Option.bind (S.i_in ((List.getD x1.2.2.1 (Int.toNat x1.1) (0 : Int)) , ((-1000000000 : Int) , ((1000000000 : Int) , ())))) (fun (y3 : (Bool × Unit)) => (if ((!y3.1) = true) then (some (((bs []) , false) , ()))
 else (Option.bind (S.i_Decimal ((List.getD x1.2.2.1 (Int.toNat x1.1) (0 : Int)) , ())) (fun (y4 : (ByteArray × Unit)) => (if ((decide ((((List.length x1.2.2.2.1) + (List.length (y4.1 :: ([] : List ByteArray)))) * (16 : Nat)) ≤ (140737488355328 : Nat))) = true) then (g2 ((Go.IntKind.wrap Go.IntKind.i64 (x1.1 + (1 : Int))) , (x1.2.1 , (x1.2.2.1 , ((x1.2.2.2.1 ++ (y4.1 :: ([] : List ByteArray))) , ())))))
 else none))))))
 else none)
 else none)
 else (Option.bind (S.i_joined (x1.2.2.2.1 , ())) (fun (y5 : (ByteArray × Unit)) => (some ((y5.1 , true) , ())))))
def P.i_ListText (k : Nat) (x : ((List Int) × Unit)) : (Option ((ByteArray × Bool) × Unit)) :=
 (if ((decide ((((List.length x.1) : Nat) : Int) > (300 : Int))) = true) then (some (((bs []) , false) , ()))
 else (loopP (X := (Int × (Int × ((List Int) × ((List ByteArray) × Unit))))) (R := ((ByteArray × Bool) × Unit)) (P.i_ListText_b0 ) k ((0 : Int) , ((((List.length x.1) : Nat) : Int) , (x.1 , (([] : List ByteArray) , ()))))))
theorem in_i (n : Int) : S.i_in (n, -1000000000, 1000000000, ()) = some (inB n, ()) := by
  unfold S.i_in P.i_in inB
  dsimp only
  by_cases h : -1000000000 ≤ n
  · by_cases h' : n ≤ 1000000000 <;> simp [h, h']
  · simp [h]
/-- A number's text. -/
def dtx (n : Int) : ByteArray := ⟨(Go.Lib.itoa n).toArray⟩
theorem dec_i (n : Int) (h : inB n = true) : S.i_Decimal (n, ()) = some (dtx n, ()) := by
  rw [inB_iff] at h
  unfold S.i_Decimal P.i_Decimal S.strconv_FormatInt
  dsimp only
  rw [if_pos ⟨rfl, by omega, by omega⟩]
  rfl
theorem joinTail_ltail (r : List Int) : Go.Lib.joinTail [44] (r.map Go.Lib.itoa) = ltail r := by
  unfold Go.Lib.joinTail ltail
  rw [List.map_map]
  rfl
theorem ltail_len (r : List Int) (h : r.all inB = true) : (ltail r).length ≤ r.length * 67 := by
  induction r with
  | nil => simp [ltail]
  | cons y r ih =>
    simp only [List.all_cons, Bool.and_eq_true] at h
    have h1 := ih h.2
    have hy := (inB_iff y).1 h.1
    have h2 := itoa_len y (by omega)
    unfold ltail at h1 ⊢
    simp only [List.map_cons, List.flatten_cons, List.length_append, List.length_cons]
    omega
theorem joined_i (xs : List Int) (hl : xs.length ≤ 300) (ha : xs.all inB = true) : S.i_joined (xs.map dtx, ()) = some (⟨(ltx xs).toArray⟩, ()) := by
  unfold S.i_joined P.i_joined
  dsimp only
  match xs, hl, ha with
  | [], _, _ => rfl
  | x :: r, hl, ha =>
    rw [if_neg (by simp; omega)]
    have e : joinB ((x :: r).map dtx) (bs [44]) = ltx (x :: r) := by
      unfold joinB
      rw [List.map_map]
      have : ((fun y : ByteArray => y.data.toList) ∘ dtx) = Go.Lib.itoa := by
        funext n; simp [dtx]
      rw [this, List.map_cons, Go.Lib.join_cons]
      show _ ++ Go.Lib.joinTail [44] _ = _
      rw [joinTail_ltail]
      rfl
    simp only [List.all_cons, Bool.and_eq_true] at ha
    have hx := (inB_iff x).1 ha.1
    have h1 := itoa_len x (by omega)
    have h2 := ltail_len r ha.2
    simp only [List.length_cons] at hl
    unfold S.strings_Join
    dsimp only
    rw [e, if_pos ⟨by simp; omega, by simp only [ltx, List.length_append]; omega⟩]
    rfl
def S.i_ListText (x : ((List Int) × Unit)) : (Option ((ByteArray × Bool) × Unit)) := some (if x.1.all inB = true ∧ x.1.length ≤ 300 then ((⟨(ltx x.1).toArray⟩, true), ()) else ((bs [], false), ()))
theorem S.i_ListText_ok (x : ((List Int) × Unit)) (r : _) (h : S.i_ListText x = some r) : ∃ k, P.i_ListText k x = some r := by
  obtain ⟨xs, u⟩ := x
  unfold S.i_ListText at h
  dsimp only at h
  refine ⟨400, ?_⟩
  unfold P.i_ListText
  dsimp only
  by_cases hl : xs.length ≤ 300
  · rw [if_neg (by simp; omega)]
    have key := loop_up0 (k := 400) (b := P.i_ListText_b0) (n := xs.length) (st := fun i => ((i : Int), (xs.length : Int), xs, (xs.take i).map dtx, ())) (F := fun i => if (xs.drop i).all inB = true then Option.bind (S.i_joined (xs.map dtx, ())) (fun y5 => some ((y5.1, true), ())) else some ((bs [], false), ())) (fun i g hi hg => by
      unfold P.i_ListText_b0
      dsimp only at hg ⊢
      have e1 : (i : Int) < (xs.length : Int) := by omega
      have e2 : (0 : Int) ≤ (i : Int) := by omega
      simp only [e1, e2, decide_true, if_true]
      rw [getD_cast xs i _ hi, in_i, Option.bind_some, List.drop_eq_getElem_cons hi, List.all_cons]
      cases hq : inB xs[i]
      · simp
      · dsimp only
        rw [if_neg (by simp), dec_i _ hq, Option.bind_some]
        have e3 : (((xs.take i).map dtx).length + (dtx xs[i] :: ([] : List ByteArray)).length) * 16 ≤ 140737488355328 := by
          simp; omega
        dsimp only
        rw [if_pos (decide_eq_true e3), wr (by omega) (by omega)]
        have e4 : (xs.take i).map dtx ++ [dtx xs[i]] = (xs.take (i + 1)).map dtx := by
          rw [← List.take_append_getElem hi, List.map_append]
          rfl
        rw [e4, Bool.true_and]
        exact hg) (fun g => by
      unfold P.i_ListText_b0
      have e1 : ¬ ((xs.length : Int) < (xs.length : Int)) := by omega
      dsimp only
      rw [if_neg (by simp), List.drop_length, List.take_length, List.all_nil, if_pos rfl]) (by omega)
    refine (show _ = _ from key).trans ?_
    show (if xs.all inB = true then Option.bind (S.i_joined (xs.map dtx, ())) (fun y5 => some ((y5.1, true), ())) else some ((bs [], false), ())) = some r
    rw [← h]
    by_cases ha : xs.all inB = true
    · rw [if_pos ha, joined_i xs hl ha, if_pos ⟨ha, hl⟩]
      rfl
    · rw [if_neg ha, if_neg (fun q => ha q.1)]
  · rw [if_pos (decide_eq_true (by omega)), ← h, if_neg (fun q => hl q.2)]
def P.l_FnExactListText (k : Nat) (x : ((List Int) × Unit)) : (Option (Bool × Unit)) :=
 (if ((decide ((((List.length x.1) : Nat) : Int) > (1000000 : Int))) = true) then (some (true , ()))
 else (Option.bind (S.l_toInt64S (x.1 , (false , ()))) (fun (y0 : (((List Int) × Nat) × Unit)) => (Option.bind (S.s_ListText ((List.take y0.1.2 y0.1.1) , ())) (fun (y1 : ((ByteArray × Bool) × Unit)) => (Option.bind (S.l_toInt64S (x.1 , (false , ()))) (fun (y2 : (((List Int) × Nat) × Unit)) => (Option.bind (S.i_ListText ((List.take y2.1.2 y2.1.1) , ())) (fun (y3 : ((ByteArray × Bool) × Unit)) => (if ((!((ByteArray.toList y3.1.1) == (ByteArray.toList y1.1.1))) = true) then (some (false , ()))
 else (if ((!(y3.1.2 == y1.1.2)) = true) then (some (false , ()))
 else (Option.bind (S.l_toInt64S (x.1 , (false , ()))) (fun (y4 : (((List Int) × Nat) × Unit)) => (Option.bind (S.l_intactInt64S ((y2.1.1 , y2.1.2) , ((y4.1.1 , y4.1.2) , ()))) (fun (y5 : (Bool × Unit)) => (if ((!y5.1) = true) then (some (false , ()))
 else (Option.bind (S.l_toInt64S (x.1 , (true , ()))) (fun (y6 : (((List Int) × Nat) × Unit)) => (Option.bind (S.i_ListText ((List.take y6.1.2 y6.1.1) , ())) (fun (y7 : ((ByteArray × Bool) × Unit)) => (if ((!((ByteArray.toList y7.1.1) == (ByteArray.toList y1.1.1))) = true) then (some (false , ()))
 else (if ((!(y7.1.2 == y1.1.2)) = true) then (some (false , ()))
 else (some (true , ()))))))))))))))))))))))))
def S.l_FnExactListText (x : ((List Int) × Unit)) : (Option (Bool × Unit)) := P.l_FnExactListText 0 x
theorem S.l_FnExactListText_ok (x : ((List Int) × Unit)) (r : _) (h : S.l_FnExactListText x = some r) : ∃ k, P.l_FnExactListText k x = some r := ⟨0, h⟩
end Go.Cm
end
