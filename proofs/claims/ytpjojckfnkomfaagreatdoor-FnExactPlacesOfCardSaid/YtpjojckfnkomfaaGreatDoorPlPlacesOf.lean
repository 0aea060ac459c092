import Derived.Test.YtpjojckfnkomfaaGreatDoorPlPlacesOfc
set_option linter.unusedVariables false
set_option maxRecDepth 100000
noncomputable section
namespace Go.Cm
abbrev P.s_PlacesOf_b9  (x10 : (ByteArray × (Int × ((Bool × ((List Int) × (List Int))) × ((Bool × ((List Int) × (List Int))) × Unit))))) (g11 : (ByteArray × (Int × ((Bool × ((List Int) × (List Int))) × ((Bool × ((List Int) × (List Int))) × Unit)))) → Option ((ByteArray × Bool) × Unit)) : Option ((ByteArray × Bool) × Unit) :=
 (if ((decide ((((ByteArray.size x10.1) : Nat) : Int) ≤ x10.2.1)) = true) then (if ((decide (((1 : Nat) + (ByteArray.size x10.1)) ≤ (9223372036854775807 : Nat))) = true) then (g11 (((bs [48]) ++ x10.1) , (x10.2.1 , ((x10.2.2.1.1 , (x10.2.2.1.2.1 , x10.2.2.1.2.2)) , ((x10.2.2.2.1.1 , (x10.2.2.2.1.2.1 , x10.2.2.2.1.2.2)) , ())))))
 else none)
 else (if ((decide ((0 : Int) ≤ (Go.IntKind.wrap Go.IntKind.i64 ((((ByteArray.size x10.1) : Nat) : Int) - x10.2.1)))) = true) then (if ((decide ((Go.IntKind.wrap Go.IntKind.i64 ((((ByteArray.size x10.1) : Nat) : Int) - x10.2.1)) ≤ (((ByteArray.size x10.1) : Nat) : Int))) = true) then (if ((decide ((0 : Int) ≤ (Go.IntKind.wrap Go.IntKind.i64 ((((ByteArray.size x10.1) : Nat) : Int) - x10.2.1)))) = true) then (if ((decide (x10.2.1 > (0 : Int))) = true) then (if ((decide ((0 : Int) ≤ (((ByteArray.size x10.1) : Nat) : Int))) = true) then (if ((decide ((((ByteArray.size x10.1) : Nat) : Int) ≤ (((ByteArray.size x10.1) : Nat) : Int))) = true) then (if ((decide ((0 : Int) ≤ (Go.IntKind.wrap Go.IntKind.i64 ((((ByteArray.size x10.1) : Nat) : Int) - x10.2.1)))) = true) then (if ((decide ((Go.IntKind.wrap Go.IntKind.i64 ((((ByteArray.size x10.1) : Nat) : Int) - x10.2.1)) ≤ (((ByteArray.size x10.1) : Nat) : Int))) = true) then (if ((decide (((1 : Nat) + (ByteArray.size (ByteArray.extract x10.1 (Int.toNat (Go.IntKind.wrap Go.IntKind.i64 ((((ByteArray.size x10.1) : Nat) : Int) - x10.2.1))) (Int.toNat (((ByteArray.size x10.1) : Nat) : Int))))) ≤ (9223372036854775807 : Nat))) = true) then (if ((decide (((ByteArray.size (ByteArray.extract x10.1 (0 : Nat) (Int.toNat (Go.IntKind.wrap Go.IntKind.i64 ((((ByteArray.size x10.1) : Nat) : Int) - x10.2.1))))) + (ByteArray.size ((bs [46]) ++ (ByteArray.extract x10.1 (Int.toNat (Go.IntKind.wrap Go.IntKind.i64 ((((ByteArray.size x10.1) : Nat) : Int) - x10.2.1))) (Int.toNat (((ByteArray.size x10.1) : Nat) : Int)))))) ≤ (9223372036854775807 : Nat))) = true) then (if (x10.2.2.1.1 = true) then (Option.bind (S.s_l01Zero ((x10.2.2.2.1.1 , (x10.2.2.2.1.2.1 , x10.2.2.2.1.2.2)) , ())) (fun (y12 : (Bool × Unit)) => (if ((!y12.1) = true) then (if ((decide (((1 : Nat) + (ByteArray.size ((ByteArray.extract x10.1 (0 : Nat) (Int.toNat (Go.IntKind.wrap Go.IntKind.i64 ((((ByteArray.size x10.1) : Nat) : Int) - x10.2.1)))) ++ ((bs [46]) ++ (ByteArray.extract x10.1 (Int.toNat (Go.IntKind.wrap Go.IntKind.i64 ((((ByteArray.size x10.1) : Nat) : Int) - x10.2.1))) (Int.toNat (((ByteArray.size x10.1) : Nat) : Int))))))) ≤ (9223372036854775807 : Nat))) = true) then (some ((((bs [45]) ++ ((ByteArray.extract x10.1 (0 : Nat) (Int.toNat (Go.IntKind.wrap Go.IntKind.i64 ((((ByteArray.size x10.1) : Nat) : Int) - x10.2.1)))) ++ ((bs [46]) ++ (ByteArray.extract x10.1 (Int.toNat (Go.IntKind.wrap Go.IntKind.i64 ((((ByteArray.size x10.1) : Nat) : Int) - x10.2.1))) (Int.toNat (((ByteArray.size x10.1) : Nat) : Int)))))) , true) , ()))
 else none)
 else (some ((((ByteArray.extract x10.1 (0 : Nat) (Int.toNat (Go.IntKind.wrap Go.IntKind.i64 ((((ByteArray.size x10.1) : Nat) : Int) - x10.2.1)))) ++ ((bs [46]) ++ (ByteArray.extract x10.1 (Int.toNat (Go.IntKind.wrap Go.IntKind.i64 ((((ByteArray.size x10.1) : Nat) : Int) - x10.2.1))) (Int.toNat (((ByteArray.size x10.1) : Nat) : Int))))) , true) , ())))))
 else (some ((((ByteArray.extract x10.1 (0 : Nat) (Int.toNat (Go.IntKind.wrap Go.IntKind.i64 ((((ByteArray.size x10.1) : Nat) : Int) - x10.2.1)))) ++ ((bs [46]) ++ (ByteArray.extract x10.1 (Int.toNat (Go.IntKind.wrap Go.IntKind.i64 ((((ByteArray.size x10.1) : Nat) : Int) - x10.2.1))) (Int.toNat (((ByteArray.size x10.1) : Nat) : Int))))) , true) , ())))
 else none)
 else none)
 else none)
 else none)
 else none)
 else none)
 else (if (x10.2.2.1.1 = true) then (Option.bind (S.s_l01Zero ((x10.2.2.2.1.1 , (x10.2.2.2.1.2.1 , x10.2.2.2.1.2.2)) , ())) (fun (y13 : (Bool × Unit)) => (if ((!y13.1) = true) then (if ((decide (((1 : Nat) + (ByteArray.size (ByteArray.extract x10.1 (0 : Nat) (Int.toNat (Go.IntKind.wrap Go.IntKind.i64 ((((ByteArray.size x10.1) : Nat) : Int) - x10.2.1)))))) ≤ (9223372036854775807 : Nat))) = true) then (some ((((bs [45]) ++ (ByteArray.extract x10.1 (0 : Nat) (Int.toNat (Go.IntKind.wrap Go.IntKind.i64 ((((ByteArray.size x10.1) : Nat) : Int) - x10.2.1))))) , true) , ()))
 else none)
 else (some (((ByteArray.extract x10.1 (0 : Nat) (Int.toNat (Go.IntKind.wrap Go.IntKind.i64 ((((ByteArray.size x10.1) : Nat) : Int) - x10.2.1)))) , true) , ())))))
 else (some (((ByteArray.extract x10.1 (0 : Nat) (Int.toNat (Go.IntKind.wrap Go.IntKind.i64 ((((ByteArray.size x10.1) : Nat) : Int) - x10.2.1)))) , true) , ()))))
 else none)
 else none)
 else none))
def P.s_PlacesOf (k : Nat) (x : (ByteArray × (Int × Unit))) : (Option ((ByteArray × Bool) × Unit)) :=
 (Option.bind (S.s_l01Parse (x.1 , ())) (fun (y0 : (((Bool × ((List Int) × (List Int))) × Bool) × Unit)) => (if ((!y0.1.2) = true) then (some (((bs []) , false) , ()))
 else (Option.bind (S.s_l00In (x.2.1 , ((0 : Int) , ((30 : Int) , ())))) (fun (y1 : (Bool × Unit)) => (if ((!y1.1) = true) then (some (((bs []) , false) , ()))
 else (Option.bind (S.s_l01Make (false , (((1 : Int) :: ([] : List Int)) , (((2 : Int) :: ([] : List Int)) , ())))) (fun (y2 : ((Bool × ((List Int) × (List Int))) × Unit)) => (Option.bind (S.s_l01Int ((10 : Int) , ())) (fun (y3 : ((Bool × ((List Int) × (List Int))) × Unit)) => (Option.bind (S.s_l01Power ((y3.1.1 , (y3.1.2.1 , y3.1.2.2)) , (x.2.1 , ()))) (fun (y4 : ((Bool × ((List Int) × (List Int))) × Unit)) => (Option.bind (S.s_l01Times ((false , (y0.1.1.2.1 , y0.1.1.2.2)) , ((y4.1.1 , (y4.1.2.1 , y4.1.2.2)) , ()))) (fun (y5 : ((Bool × ((List Int) × (List Int))) × Unit)) => (Option.bind (S.s_l01Sum ((y5.1.1 , (y5.1.2.1 , y5.1.2.2)) , ((y2.1.1 , (y2.1.2.1 , y2.1.2.2)) , ()))) (fun (y6 : ((Bool × ((List Int) × (List Int))) × Unit)) => (Option.bind (S.s_l01Floor ((y6.1.1 , (y6.1.2.1 , y6.1.2.2)) , ())) (fun (y7 : ((Bool × ((List Int) × (List Int))) × Unit)) => (Option.bind (S.s_l01NatText (y7.1.2.1 , ())) (fun (y8 : (ByteArray × Unit)) => (loopP (X := (ByteArray × (Int × ((Bool × ((List Int) × (List Int))) × ((Bool × ((List Int) × (List Int))) × Unit))))) (R := ((ByteArray × Bool) × Unit)) (P.s_PlacesOf_b9 ) k (y8.1 , (x.2.1 , ((y0.1.1.1 , (y0.1.1.2.1 , y0.1.1.2.2)) , ((y7.1.1 , (y7.1.2.1 , y7.1.2.2)) , ())))))))))))))))))))))))))
def plF (neg : Bool) (z : List Int) (n : Nat) (T : List UInt8) : ByteArray × Bool := (⟨((if neg = true ∧ z ≠ [] then [45] else []) ++ (if 0 < n then T.take (T.length - n) ++ 46 :: T.drop (T.length - n) else T)).toArray⟩, true)
theorem pl_end (T : List UInt8) (n : Nat) (X R : (Bool × ((List Int) × (List Int)))) (hn : n < T.length) (hT : T.length ≤ 1000000) (g : _ → Option ((ByteArray × Bool) × Unit)) : P.s_PlacesOf_b9 (⟨T.toArray⟩, ((n : Int), (X, (R, ())))) g = some (plF X.1 R.2.1 n T, ()) := by
  obtain ⟨neg, p, q⟩ := X
  obtain ⟨rn, rp', rq⟩ := R
  unfold P.s_PlacesOf_b9 S.s_l01Zero P.s_l01Zero plF
  dsimp only
  rw [ba_sz, if_neg (by simp; omega)]
  have ew : Go.IntKind.wrap Go.IntKind.i64 ((T.length : Int) - (n : Int)) = ((T.length - n : Nat) : Int) := by rw [wr (by omega) (by omega)]; omega
  rw [ew]
  have e1 : (0 : Int) ≤ ((T.length - n : Nat) : Int) := by omega
  have e2 : ((T.length - n : Nat) : Int) ≤ (T.length : Int) := by omega
  have e3 : (0 : Int) ≤ (T.length : Int) := by omega
  have l1 : (T.take (T.length - n)).length = T.length - n := by rw [List.length_take]; omega
  have l2 : (T.drop (T.length - n)).length = n := by rw [List.length_drop]; omega
  rw [Int.toNat_natCast, Int.toNat_natCast, ba_ext, ba_ext, List.drop_zero, List.take_length, show bs [46] = ⟨([46] : List UInt8).toArray⟩ from rfl, show bs [45] = ⟨([45] : List UInt8).toArray⟩ from rfl]
  simp only [ba_app, ba_sz, List.length_append, List.length_cons, List.length_nil, l1, l2, Option.bind_some, e1, e2, e3, decide_true, if_true, Int.le_refl]
  have c1 : 1 + n ≤ 9223372036854775807 := by omega
  have c2 : T.length - n + (0 + 1 + n) ≤ 9223372036854775807 := by omega
  have c3 : 1 + (T.length - n + (0 + 1 + n)) ≤ 9223372036854775807 := by omega
  have c4 : 1 + (T.length - n) ≤ 9223372036854775807 := by omega
  simp only [c1, c2, c3, c4, decide_true, if_true]
  by_cases h0 : 0 < n
  · have h0' : (n : Int) > 0 := by omega
    rw [if_pos (decide_eq_true h0'), if_pos h0]
    cases neg
    · simp
    · by_cases hz : rp' = []
      · subst hz
        simp
      · have hz' : ((rp'.length : Int) == 0) = false := by
          rw [beq_eq_false_iff_ne]
          intro h
          exact hz (List.eq_nil_of_length_eq_zero (by omega))
        rw [hz']
        simp [hz]
  · have h0' : ¬ ((n : Int) > 0) := by omega
    have hn0 : n = 0 := by omega
    subst hn0
    rw [if_neg (show ¬ (decide (((0 : Nat) : Int) > 0) = true) by decide), if_neg (show ¬ (0 < 0) by decide), Nat.sub_zero, List.take_length]
    cases neg
    · simp
    · by_cases hz : rp' = []
      · subst hz
        simp
      · have hz' : ((rp'.length : Int) == 0) = false := by
          rw [beq_eq_false_iff_ne]
          intro h
          exact hz (List.eq_nil_of_length_eq_zero (by omega))
        rw [hz']
        simp [hz]
theorem plF_plcT (x : Q3) (n : Nat) (B : Nat) (hB : 2 ≤ B) : plF x.1 (nd B (sizeQ x n).2.1) n (padT n (Go.Lib.decDigits (sizeQ x n).2.1)) = (⟨(plcT n x.1 (sizeQ x n).2.1).toArray⟩, true) := by
  unfold plF plcT
  have : (x.1 = true ∧ nd B (sizeQ x n).2.1 ≠ []) = (x.1 = true ∧ (sizeQ x n).2.1 ≠ 0) := by
    rw [ne_eq, nd_zero_iff hB]
  simp only [this]
def S.s_PlacesOf (x : (ByteArray × (Int × Unit))) : (Option ((ByteArray × Bool) × Unit)) := if x.1.size ≤ 1000000 then some (if (rdRat x.1.data.toList).2 = true ∧ 0 ≤ x.2.1 ∧ x.2.1 ≤ 30 then (⟨(plcT x.2.1.toNat (rdRat x.1.data.toList).1.1 (sizeQ (rdRat x.1.data.toList).1 x.2.1.toNat).2.1).toArray⟩, true) else (bs [], false), ()) else none
theorem S.s_PlacesOf_ok (x : (ByteArray × (Int × Unit))) (r : _) (h : S.s_PlacesOf x = some r) : ∃ k, P.s_PlacesOf k x = some r := by
  obtain ⟨a, n', u⟩ := x
  unfold S.s_PlacesOf at h
  dsimp only at h
  split at h
  case isFalse => cases h
  rename_i hsz
  refine ⟨n'.toNat + 2, ?_⟩
  rw [← h]
  clear h
  unfold P.s_PlacesOf S.s_l01Parse
  dsimp only
  rw [if_pos hsz, Option.bind_some]
  dsimp only
  have ga : (rdRat a.data.toList).2 = true → low (rdRat a.data.toList).1 ∧ below 200 (rdRat a.data.toList).1 := fun h => ⟨rdRat_low _ h, (rdRat_ok _ h).2⟩
  generalize rdRat a.data.toList = X at *
  obtain ⟨X, fx⟩ := X
  dsimp only at *
  cases fx
  · have hn : ¬ ((false : Bool) = true ∧ 0 ≤ n' ∧ n' ≤ 30) := fun z => by cases z.1
    rw [if_neg hn]
    rfl
  obtain ⟨lx, bx⟩ := ga rfl
  rw [if_neg (show ¬ ((!true) = true) by decide)]
  have hin : S.s_l00In (n', (0, (30, ()))) = some (decide (0 ≤ n' ∧ n' ≤ 30), ()) := by
    unfold S.s_l00In P.s_l00In
    dsimp only
    by_cases h : n' ≥ 0
    · by_cases h' : n' ≤ 30 <;> simp [h, h']
    · have h2 : ¬ (0 ≤ n') := by omega
      rw [if_neg (by simpa using h), decide_eq_false (fun z => h2 z.1)]
  rw [hin, Option.bind_some]
  dsimp only
  by_cases hc : 0 ≤ n' ∧ n' ≤ 30
  · obtain ⟨n, rfl⟩ : ∃ n : Nat, n' = (n : Int) := ⟨n'.toNat, by omega⟩
    rw [decide_eq_true hc, if_neg (show ¬ ((!true) = true) by decide), if_pos (show true = true ∧ 0 ≤ (n : Int) ∧ (n : Int) ≤ 30 from ⟨rfl, hc⟩), Int.toNat_natCast]
    have hx := lowb_rp (B := B10) (N := 100000) (by decide) (absQ_low lx) (n := 200) bx (by decide)
    have h10 : below 200 (wholeQ 10) := wholeQ_below (by decide) (by decide)
    have hp : S.s_l01Power (rp B10 (wholeQ 10), ((n : Int), ())) = some (rp B10 (powQ (wholeQ 10) n), ()) := by
      unfold S.s_l01Power
      dsimp only
      rw [rv_rp B10_le, if_pos ⟨lowb_rp (by decide) (wholeQ_low 10) h10 (by decide), h10.1, h10.2, by omega, by omega⟩, Int.toNat_natCast]
    have hpb := powQ_below (wholeQ 10) 200 n h10
    have hpl := powQ_low (wholeQ 10) (wholeQ_low 10) n
    have hm : S.s_l01Times (rp B10 (absQ X), (rp B10 (powQ (wholeQ 10) n), ())) = some (rp B10 (mulQ (absQ X) (powQ (wholeQ 10) n)), ()) := by
      unfold S.s_l01Times
      dsimp only
      rw [if_pos ⟨hx, lowb_rp (by decide) hpl hpb (by omega)⟩, rv_rp B10_le, rv_rp B10_le]
    have hmb : below (200 + (200 * n + 1)) (mulQ (absQ X) (powQ (wholeQ 10) n)) := mulQ_below (x := absQ X) bx hpb
    have hml := mulQ_low (absQ X) (powQ (wholeQ 10) n) (absQ_low lx) hpl
    have hhb : below 1 (lowN false 1 2) := lowN_below false (by decide) (by decide)
    have hhl : low (lowN false 1 2) := lowN_low false (by decide)
    have ha : S.s_l01Sum (rp B10 (mulQ (absQ X) (powQ (wholeQ 10) n)), (rp B10 (lowN false 1 2), ())) = some (rp B10 (addQ (mulQ (absQ X) (powQ (wholeQ 10) n)) (lowN false 1 2)), ()) := by
      unfold S.s_l01Sum
      dsimp only
      rw [if_pos ⟨lowb_rp (by decide) hml hmb (by omega), lowb_rp (by decide) hhl hhb (by decide)⟩, rv_rp B10_le, rv_rp B10_le]
    have hab := addQ_below hmb hhb
    have hal := addQ_low _ _ hml hhl
    have hf : S.s_l01Floor (rp B10 (addQ (mulQ (absQ X) (powQ (wholeQ 10) n)) (lowN false 1 2)), ()) = some (rp B10 (sizeQ X n), ()) := by
      unfold S.s_l01Floor
      dsimp only
      rw [if_pos (lowb_rp (by decide) hal hab (by omega)), rv_rp B10_le]
      rfl
    obtain ⟨em, hem⟩ : ∃ em : Nat, em = 10000 := ⟨_, rfl⟩
    have hsz : (sizeQ X n).2.1 < 10 ^ em := by
      have h1 : (sizeQ X n).2.1 = (addQ (mulQ (absQ X) (powQ (wholeQ 10) n)) (lowN false 1 2)).2.1 / (addQ (mulQ (absQ X) (powQ (wholeQ 10) n)) (lowN false 1 2)).2.2 := by
        show _ + _ = _
        rw [addQ_pos _ _ (mulQ_pos _ _ rfl (powQ_pos _ rfl n)) rfl, if_neg (fun z => by cases z.1), Nat.add_zero]
      rw [h1]
      have h2 : (addQ (mulQ (absQ X) (powQ (wholeQ 10) n)) (lowN false 1 2)).2.1 < 10 ^ em := Nat.lt_of_lt_of_le hab.1 (Nat.pow_le_pow_right (by decide) (by omega))
      exact Nat.lt_of_le_of_lt (Nat.div_le_self _ _) h2
    have hlen : (nd B10 (sizeQ X n).2.1).length ≤ em := (nd_len B10_le _ _).2 (Nat.lt_of_lt_of_le hsz (Nat.pow_le_pow_left (by decide) _))
    have ht : S.s_l01NatText (nd B10 (sizeQ X n).2.1, ()) = some (⟨(Go.Lib.decDigits (sizeQ X n).2.1).toArray⟩, ()) := by
      unfold S.s_l01NatText
      dsimp only
      rw [if_pos ⟨canon_nd B10_le _, by omega⟩, dval_nd B10_le]
    have hD := canon_dec (show B10 ≤ 10 ^ 10 by decide) (canon_nd B10_le (sizeQ X n).2.1)
    rw [dval_nd B10_le] at hD
    have hD' : (Go.Lib.decDigits (sizeQ X n).2.1).length ≤ 100001 := by omega
    have hk : S.s_l01Make (false, ([1], ([2], ()))) = some (rp B10 (lowN false 1 2), ()) := by
      unfold S.s_l01Make
      dsimp only
      rw [if_pos ⟨canon_one B10_le, by rw [← nd_two (B := B10) (by decide)]; exact canon_nd B10_le 2, by decide, by decide, by decide⟩]
      rfl
    have hw : S.s_l01Int (10, ()) = some (rp B10 (wholeQ 10), ()) := by rfl
    rw [hk, Option.bind_some, hw, Option.bind_some]
    show Option.bind (S.s_l01Power (rp B10 (wholeQ 10), ((n : Int), ()))) _ = _
    rw [hp, Option.bind_some]
    show Option.bind (S.s_l01Times (rp B10 (absQ X), (rp B10 (powQ (wholeQ 10) n), ()))) _ = _
    rw [hm, Option.bind_some]
    show Option.bind (S.s_l01Sum (rp B10 (mulQ (absQ X) (powQ (wholeQ 10) n)), (rp B10 (lowN false 1 2), ()))) _ = _
    rw [ha, Option.bind_some]
    show Option.bind (S.s_l01Floor (rp B10 (addQ (mulQ (absQ X) (powQ (wholeQ 10) n)) (lowN false 1 2)), ())) _ = _
    rw [hf, Option.bind_some]
    show Option.bind (S.s_l01NatText (nd B10 (sizeQ X n).2.1, ())) _ = _
    rw [ht, Option.bind_some]
    rw [← plF_plcT X n B10 B10_le]
    generalize hDD : Go.Lib.decDigits (sizeQ X n).2.1 = D at *
    have key := loop_up0 (k := n + 2) (b := P.s_PlacesOf_b9) (n := n + 1 - D.length) (st := fun i => ((⟨(List.replicate i 48 ++ D).toArray⟩ : ByteArray), ((n : Int), (rp B10 X, (rp B10 (sizeQ X n), ()))))) (F := fun i => some (plF X.1 (nd B10 (sizeQ X n).2.1) n (padT n D), ())) (fun i g hi hg => by
      unfold P.s_PlacesOf_b9
      dsimp only at hg ⊢
      have hsz' : (⟨(List.replicate i 48 ++ D).toArray⟩ : ByteArray).size = i + D.length := by rw [ba_sz, List.length_append, List.length_replicate]
      rw [hsz', if_pos (decide_eq_true (by omega)), if_pos (decide_eq_true (by omega)), show bs [48] = ⟨([48] : List UInt8).toArray⟩ from rfl, ba_app]
      exact hg) (fun g => by
      obtain ⟨p1, p2⟩ := padT_len n D
      exact pl_end (padT n D) n (rp B10 X) (rp B10 (sizeQ X n)) p1 (by omega) g) (by omega)
    exact key
  · have hn : ¬ ((true : Bool) = true ∧ 0 ≤ n' ∧ n' ≤ 30) := fun z => hc z.2
    rw [decide_eq_false hc, if_pos (show (!false) = true by rfl), if_neg hn]
def P.l_FnExactPlacesOf (k : Nat) (x : (ByteArray × (Int × Unit))) : (Option (Bool × Unit)) :=
 (if ((decide ((((ByteArray.size x.1) : Nat) : Int) > (1000000 : Int))) = true) then (some (true , ()))
 else (Option.bind (S.s_PlacesOf (x.1 , (x.2.1 , ()))) (fun (y0 : ((ByteArray × Bool) × Unit)) => (Option.bind (S.i_PlacesOf (x.1 , (x.2.1 , ()))) (fun (y1 : ((ByteArray × Bool) × Unit)) => (if ((!((ByteArray.toList y1.1.1) == (ByteArray.toList y0.1.1))) = true) then (some (false , ()))
 else (if ((!(y1.1.2 == y0.1.2)) = true) then (some (false , ()))
 else (some (true , ())))))))))
def S.l_FnExactPlacesOf (x : (ByteArray × (Int × Unit))) : (Option (Bool × Unit)) := P.l_FnExactPlacesOf 0 x
theorem S.l_FnExactPlacesOf_ok (x : (ByteArray × (Int × Unit))) (r : _) (h : S.l_FnExactPlacesOf x = some r) : ∃ k, P.l_FnExactPlacesOf k x = some r := ⟨0, h⟩
end Go.Cm
end
