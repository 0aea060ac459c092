import Derived.Test.YtpjojckfnkomfaaGreatDoorPlLessFractiona
set_option linter.unusedVariables false
set_option maxRecDepth 100000
noncomputable section
namespace Go.Cm
abbrev P.i_readNat_b7 (g5 : ((ByteArray × ((List Int) × Unit)) → (Option (((List Int) × Bool) × Unit)))) (x8 : (Int × (Int × (Int × ((List Int) × (Int × (ByteArray × (Int × Unit)))))))) (g9 : (Int × (Int × (Int × ((List Int) × (Int × (ByteArray × (Int × Unit))))))) → Option (((List Int) × Bool) × Unit)) : Option (((List Int) × Bool) × Unit) :=
 (if ((decide (x8.1 < x8.2.1)) = true) then (g9 ((Go.IntKind.wrap Go.IntKind.i64 (x8.1 + (1 : Int))) , (x8.2.1 , ((Go.IntKind.wrap Go.IntKind.u64 (x8.2.2.1 * (10 : Int))) , (x8.2.2.2.1 , (x8.2.2.2.2.1 , (x8.2.2.2.2.2.1 , (x8.2.2.2.2.2.2.1 , ()))))))))
 else (Option.bind (S.i_natOf (x8.2.2.1 , ())) (fun (y10 : ((List Int) × Unit)) => (Option.bind (S.i_nat_mul (x8.2.2.2.1 , (y10.1 , ()))) (fun (y11 : ((List Int) × Unit)) => (Option.bind (S.i_natOf (x8.2.2.2.2.1 , ())) (fun (y12 : ((List Int) × Unit)) => (Option.bind (S.i_nat_add (y11.1 , (y12.1 , ()))) (fun (y13 : ((List Int) × Unit)) => (if ((decide ((0 : Int) ≤ (((ByteArray.size x8.2.2.2.2.2.1) : Nat) : Int))) = true) then (if ((decide ((((ByteArray.size x8.2.2.2.2.2.1) : Nat) : Int) ≤ (((ByteArray.size x8.2.2.2.2.2.1) : Nat) : Int))) = true) then (if ((decide ((0 : Int) ≤ x8.2.2.2.2.2.2.1)) = true) then (if ((decide (x8.2.2.2.2.2.2.1 ≤ (((ByteArray.size x8.2.2.2.2.2.1) : Nat) : Int))) = true) then (g5 ((ByteArray.extract x8.2.2.2.2.2.1 (Int.toNat x8.2.2.2.2.2.2.1) (Int.toNat (((ByteArray.size x8.2.2.2.2.2.1) : Nat) : Int))) , (y13.1 , ())))
 else none)
 else none)
 else none)
 else none))))))))))
abbrev P.i_readNat_b15 (g5 : ((ByteArray × ((List Int) × Unit)) → (Option (((List Int) × Bool) × Unit)))) (x16 : (Int × (Int × (Int × ((List Int) × (Int × (ByteArray × (Int × Unit)))))))) (g17 : (Int × (Int × (Int × ((List Int) × (Int × (ByteArray × (Int × Unit))))))) → Option (((List Int) × Bool) × Unit)) : Option (((List Int) × Bool) × Unit) :=
 (if ((decide (x16.1 < x16.2.1)) = true) then (g17 ((Go.IntKind.wrap Go.IntKind.i64 (x16.1 + (1 : Int))) , (x16.2.1 , ((Go.IntKind.wrap Go.IntKind.u64 (x16.2.2.1 * (10 : Int))) , (x16.2.2.2.1 , (x16.2.2.2.2.1 , (x16.2.2.2.2.2.1 , (x16.2.2.2.2.2.2.1 , ()))))))))
 else (Option.bind (S.i_natOf (x16.2.2.1 , ())) (fun (y18 : ((List Int) × Unit)) => (Option.bind (S.i_nat_mul (x16.2.2.2.1 , (y18.1 , ()))) (fun (y19 : ((List Int) × Unit)) => (Option.bind (S.i_natOf (x16.2.2.2.2.1 , ())) (fun (y20 : ((List Int) × Unit)) => (Option.bind (S.i_nat_add (y19.1 , (y20.1 , ()))) (fun (y21 : ((List Int) × Unit)) => (if ((decide ((0 : Int) ≤ (((ByteArray.size x16.2.2.2.2.2.1) : Nat) : Int))) = true) then (if ((decide ((((ByteArray.size x16.2.2.2.2.2.1) : Nat) : Int) ≤ (((ByteArray.size x16.2.2.2.2.2.1) : Nat) : Int))) = true) then (if ((decide ((0 : Int) ≤ x16.2.2.2.2.2.2.1)) = true) then (if ((decide (x16.2.2.2.2.2.2.1 ≤ (((ByteArray.size x16.2.2.2.2.2.1) : Nat) : Int))) = true) then (g5 ((ByteArray.extract x16.2.2.2.2.2.1 (Int.toNat x16.2.2.2.2.2.2.1) (Int.toNat (((ByteArray.size x16.2.2.2.2.2.1) : Nat) : Int))) , (y21.1 , ())))
 else none)
 else none)
 else none)
 else none))))))))))
abbrev P.i_readNat_b3 (k : Nat) (x4 : (ByteArray × ((List Int) × Unit))) (g5 : (ByteArray × ((List Int) × Unit)) → Option (((List Int) × Bool) × Unit)) : Option (((List Int) × Bool) × Unit) :=
 (if ((!((ByteArray.toList x4.1) == (ByteArray.toList (bs [])))) = true) then (if (((Int.tmod (((ByteArray.size x4.1) : Nat) : Int) (9 : Int)) == (0 : Int)) = true) then (if ((decide ((9 : Int) ≤ (((ByteArray.size x4.1) : Nat) : Int))) = true) then (Option.bind (S.strconv_ParseUint ((ByteArray.extract x4.1 (0 : Nat) (9 : Nat)) , ((10 : Int) , ((64 : Int) , ())))) (fun (y6 : ((Int × Bool) × Unit)) => (loopP (X := (Int × (Int × (Int × ((List Int) × (Int × (ByteArray × (Int × Unit)))))))) (R := (((List Int) × Bool) × Unit)) (P.i_readNat_b7 g5) k ((0 : Int) , ((9 : Int) , ((1 : Int) , (x4.2.1 , (y6.1.1 , (x4.1 , ((9 : Int) , ()))))))))))
 else none)
 else (if ((decide ((0 : Int) ≤ (Int.tmod (((ByteArray.size x4.1) : Nat) : Int) (9 : Int)))) = true) then (if ((decide ((Int.tmod (((ByteArray.size x4.1) : Nat) : Int) (9 : Int)) ≤ (((ByteArray.size x4.1) : Nat) : Int))) = true) then (if ((decide ((0 : Int) ≤ (Int.tmod (((ByteArray.size x4.1) : Nat) : Int) (9 : Int)))) = true) then (Option.bind (S.strconv_ParseUint ((ByteArray.extract x4.1 (0 : Nat) (Int.toNat (Int.tmod (((ByteArray.size x4.1) : Nat) : Int) (9 : Int)))) , ((10 : Int) , ((64 : Int) , ())))) (fun (y14 : ((Int × Bool) × Unit)) => (loopP (X := (Int × (Int × (Int × ((List Int) × (Int × (ByteArray × (Int × Unit)))))))) (R := (((List Int) × Bool) × Unit)) (P.i_readNat_b15 g5) k ((0 : Int) , ((Int.tmod (((ByteArray.size x4.1) : Nat) : Int) (9 : Int)) , ((1 : Int) , (x4.2.1 , (y14.1.1 , (x4.1 , ((Int.tmod (((ByteArray.size x4.1) : Nat) : Int) (9 : Int)) , ()))))))))))
 else none)
 else none)
 else none))
 else (some ((x4.2.1 , true) , ())))
abbrev P.i_readNat_b0 (k : Nat) (x1 : (Int × (Int × (ByteArray × ((List Int) × Unit))))) (g2 : (Int × (Int × (ByteArray × ((List Int) × Unit)))) → Option (((List Int) × Bool) × Unit)) : Option (((List Int) × Bool) × Unit) :=
 (if ((decide (x1.1 < x1.2.1)) = true) then (if ((decide ((0 : Int) ≤ x1.1)) = true) then (if ((decide (x1.1 < (((ByteArray.size x1.2.2.1) : Nat) : Int))) = true) then (if ((decide ((byteAt x1.2.2.1 x1.1) < (48 : Int))) = true) then (some ((([] : List Int) , false) , ()))
 else (if ((decide ((0 : Int) ≤ x1.1)) = true) then (if ((decide (x1.1 < (((ByteArray.size x1.2.2.1) : Nat) : Int))) = true) then (if ((decide ((byteAt x1.2.2.1 x1.1) > (57 : Int))) = true) then (some ((([] : List Int) , false) , ()))
 else (g2 ((Go.IntKind.wrap Go.IntKind.i64 (x1.1 + (1 : Int))) , (x1.2.1 , (x1.2.2.1 , (x1.2.2.2.1 , ()))))))
 else none)
 else none))
 else none)
 else none)
 else (loopP (X := (ByteArray × ((List Int) × Unit))) (R := (((List Int) × Bool) × Unit)) (P.i_readNat_b3 k) k (x1.2.2.1 , (x1.2.2.2.1 , ()))))
abbrev P.i_readNat_b29 (g27 : ((ByteArray × ((List Int) × Unit)) → (Option (((List Int) × Bool) × Unit)))) (x30 : (Int × (Int × (Int × ((List Int) × (Int × (ByteArray × (Int × Unit)))))))) (g31 : (Int × (Int × (Int × ((List Int) × (Int × (ByteArray × (Int × Unit))))))) → Option (((List Int) × Bool) × Unit)) : Option (((List Int) × Bool) × Unit) :=
 (if ((decide (x30.1 < x30.2.1)) = true) then (g31 ((Go.IntKind.wrap Go.IntKind.i64 (x30.1 + (1 : Int))) , (x30.2.1 , ((Go.IntKind.wrap Go.IntKind.u64 (x30.2.2.1 * (10 : Int))) , (x30.2.2.2.1 , (x30.2.2.2.2.1 , (x30.2.2.2.2.2.1 , (x30.2.2.2.2.2.2.1 , ()))))))))
 else (Option.bind (S.i_natOf (x30.2.2.1 , ())) (fun (y32 : ((List Int) × Unit)) => (Option.bind (S.i_nat_mul (x30.2.2.2.1 , (y32.1 , ()))) (fun (y33 : ((List Int) × Unit)) => (Option.bind (S.i_natOf (x30.2.2.2.2.1 , ())) (fun (y34 : ((List Int) × Unit)) => (Option.bind (S.i_nat_add (y33.1 , (y34.1 , ()))) (fun (y35 : ((List Int) × Unit)) => (if ((decide ((0 : Int) ≤ (((ByteArray.size x30.2.2.2.2.2.1) : Nat) : Int))) = true) then (if ((decide ((((ByteArray.size x30.2.2.2.2.2.1) : Nat) : Int) ≤ (((ByteArray.size x30.2.2.2.2.2.1) : Nat) : Int))) = true) then (if ((decide ((0 : Int) ≤ x30.2.2.2.2.2.2.1)) = true) then (if ((decide (x30.2.2.2.2.2.2.1 ≤ (((ByteArray.size x30.2.2.2.2.2.1) : Nat) : Int))) = true) then (g27 ((ByteArray.extract x30.2.2.2.2.2.1 (Int.toNat x30.2.2.2.2.2.2.1) (Int.toNat (((ByteArray.size x30.2.2.2.2.2.1) : Nat) : Int))) , (y35.1 , ())))
 else none)
 else none)
 else none)
 else none))))))))))
abbrev P.i_readNat_b37 (g27 : ((ByteArray × ((List Int) × Unit)) → (Option (((List Int) × Bool) × Unit)))) (x38 : (Int × (Int × (Int × ((List Int) × (Int × (ByteArray × (Int × Unit)))))))) (g39 : (Int × (Int × (Int × ((List Int) × (Int × (ByteArray × (Int × Unit))))))) → Option (((List Int) × Bool) × Unit)) : Option (((List Int) × Bool) × Unit) :=
 (if ((decide (x38.1 < x38.2.1)) = true) then (g39 ((Go.IntKind.wrap Go.IntKind.i64 (x38.1 + (1 : Int))) , (x38.2.1 , ((Go.IntKind.wrap Go.IntKind.u64 (x38.2.2.1 * (10 : Int))) , (x38.2.2.2.1 , (x38.2.2.2.2.1 , (x38.2.2.2.2.2.1 , (x38.2.2.2.2.2.2.1 , ()))))))))
 else (Option.bind (S.i_natOf (x38.2.2.1 , ())) (fun (y40 : ((List Int) × Unit)) => (Option.bind (S.i_nat_mul (x38.2.2.2.1 , (y40.1 , ()))) (fun (y41 : ((List Int) × Unit)) => (Option.bind (S.i_natOf (x38.2.2.2.2.1 , ())) (fun (y42 : ((List Int) × Unit)) => (Option.bind (S.i_nat_add (y41.1 , (y42.1 , ()))) (fun (y43 : ((List Int) × Unit)) => (if ((decide ((0 : Int) ≤ (((ByteArray.size x38.2.2.2.2.2.1) : Nat) : Int))) = true) then (if ((decide ((((ByteArray.size x38.2.2.2.2.2.1) : Nat) : Int) ≤ (((ByteArray.size x38.2.2.2.2.2.1) : Nat) : Int))) = true) then (if ((decide ((0 : Int) ≤ x38.2.2.2.2.2.2.1)) = true) then (if ((decide (x38.2.2.2.2.2.2.1 ≤ (((ByteArray.size x38.2.2.2.2.2.1) : Nat) : Int))) = true) then (g27 ((ByteArray.extract x38.2.2.2.2.2.1 (Int.toNat x38.2.2.2.2.2.2.1) (Int.toNat (((ByteArray.size x38.2.2.2.2.2.1) : Nat) : Int))) , (y43.1 , ())))
 else none)
 else none)
 else none)
 else none))))))))))
abbrev P.i_readNat_b25 (k : Nat) (x26 : (ByteArray × ((List Int) × Unit))) (g27 : (ByteArray × ((List Int) × Unit)) → Option (((List Int) × Bool) × Unit)) : Option (((List Int) × Bool) × Unit) :=
 (if ((!((ByteArray.toList x26.1) == (ByteArray.toList (bs [])))) = true) then (if (((Int.tmod (((ByteArray.size x26.1) : Nat) : Int) (9 : Int)) == (0 : Int)) = true) then (if ((decide ((9 : Int) ≤ (((ByteArray.size x26.1) : Nat) : Int))) = true) then (Option.bind (S.strconv_ParseUint ((ByteArray.extract x26.1 (0 : Nat) (9 : Nat)) , ((10 : Int) , ((64 : Int) , ())))) (fun (y28 : ((Int × Bool) × Unit)) => (loopP (X := (Int × (Int × (Int × ((List Int) × (Int × (ByteArray × (Int × Unit)))))))) (R := (((List Int) × Bool) × Unit)) (P.i_readNat_b29 g27) k ((0 : Int) , ((9 : Int) , ((1 : Int) , (x26.2.1 , (y28.1.1 , (x26.1 , ((9 : Int) , ()))))))))))
 else none)
 else (if ((decide ((0 : Int) ≤ (Int.tmod (((ByteArray.size x26.1) : Nat) : Int) (9 : Int)))) = true) then (if ((decide ((Int.tmod (((ByteArray.size x26.1) : Nat) : Int) (9 : Int)) ≤ (((ByteArray.size x26.1) : Nat) : Int))) = true) then (if ((decide ((0 : Int) ≤ (Int.tmod (((ByteArray.size x26.1) : Nat) : Int) (9 : Int)))) = true) then (Option.bind (S.strconv_ParseUint ((ByteArray.extract x26.1 (0 : Nat) (Int.toNat (Int.tmod (((ByteArray.size x26.1) : Nat) : Int) (9 : Int)))) , ((10 : Int) , ((64 : Int) , ())))) (fun (y36 : ((Int × Bool) × Unit)) => (loopP (X := (Int × (Int × (Int × ((List Int) × (Int × (ByteArray × (Int × Unit)))))))) (R := (((List Int) × Bool) × Unit)) (P.i_readNat_b37 g27) k ((0 : Int) , ((Int.tmod (((ByteArray.size x26.1) : Nat) : Int) (9 : Int)) , ((1 : Int) , (x26.2.1 , (y36.1.1 , (x26.1 , ((Int.tmod (((ByteArray.size x26.1) : Nat) : Int) (9 : Int)) , ()))))))))))
 else none)
 else none)
 else none))
 else (some ((x26.2.1 , true) , ())))
abbrev P.i_readNat_b22 (k : Nat) (x23 : (Int × (Int × (ByteArray × ((List Int) × Unit))))) (g24 : (Int × (Int × (ByteArray × ((List Int) × Unit)))) → Option (((List Int) × Bool) × Unit)) : Option (((List Int) × Bool) × Unit) :=
 (if ((decide (x23.1 < x23.2.1)) = true) then (if ((decide ((0 : Int) ≤ x23.1)) = true) then (if ((decide (x23.1 < (((ByteArray.size x23.2.2.1) : Nat) : Int))) = true) then (if ((decide ((byteAt x23.2.2.1 x23.1) < (48 : Int))) = true) then (some ((([] : List Int) , false) , ()))
 else (if ((decide ((0 : Int) ≤ x23.1)) = true) then (if ((decide (x23.1 < (((ByteArray.size x23.2.2.1) : Nat) : Int))) = true) then (if ((decide ((byteAt x23.2.2.1 x23.1) > (57 : Int))) = true) then (some ((([] : List Int) , false) , ()))
 else (g24 ((Go.IntKind.wrap Go.IntKind.i64 (x23.1 + (1 : Int))) , (x23.2.1 , (x23.2.2.1 , (x23.2.2.2.1 , ()))))))
 else none)
 else none))
 else none)
 else none)
 else (loopP (X := (ByteArray × ((List Int) × Unit))) (R := (((List Int) × Bool) × Unit)) (P.i_readNat_b25 k) k (x23.2.2.1 , (x23.2.2.2.1 , ()))))
def P.i_readNat (k : Nat) (x : (ByteArray × Unit)) : (Option (((List Int) × Bool) × Unit)) :=
 (if (((ByteArray.toList x.1) == (ByteArray.toList (bs []))) = true) then (some ((([] : List Int) , false) , ()))
 else (if ((decide ((((ByteArray.size x.1) : Nat) : Int) > (200 : Int))) = true) then (some ((([] : List Int) , false) , ()))
 else (if ((decide ((0 : Int) < (((ByteArray.size x.1) : Nat) : Int))) = true) then (if (((byteAt x.1 (0 : Int)) == (48 : Int)) = true) then (if ((decide ((((ByteArray.size x.1) : Nat) : Int) > (1 : Int))) = true) then (some ((([] : List Int) , false) , ()))
 else (loopP (X := (Int × (Int × (ByteArray × ((List Int) × Unit))))) (R := (((List Int) × Bool) × Unit)) (P.i_readNat_b0 k) k ((0 : Int) , ((((ByteArray.size x.1) : Nat) : Int) , (x.1 , (([] : List Int) , ()))))))
 else (loopP (X := (Int × (Int × (ByteArray × ((List Int) × Unit))))) (R := (((List Int) × Bool) × Unit)) (P.i_readNat_b22 k) k ((0 : Int) , ((((ByteArray.size x.1) : Nat) : Int) , (x.1 , (([] : List Int) , ()))))))
 else none)))
theorem rn_len {p m : Nat} (h : p < 10 ^ m) : (nd B32 p).length ≤ m := by
  rw [nd_len B32_le]
  exact Nat.lt_of_lt_of_le h (Nat.pow_le_pow_left (by decide) _)
theorem rn_times (g : ((ByteArray × ((List Int) × Unit)) → (Option (((List Int) × Bool) × Unit)))) (t : ByteArray) (p v n : Nat) (hn : n ≤ 9) (hv : v < 10 ^ n) (hp : p < 10 ^ 200) (hnl : n ≤ t.size) (K : Nat) (hK : n < K) :
    loopP (P.i_readNat_b7 g) K ((0 : Int), ((n : Int), ((1 : Int), (nd B32 p, ((v : Int), (t, ((n : Int), ()))))))) = g (ByteArray.extract t n t.size, (nd B32 (p * 10 ^ n + v), ())) := by
  have hp9 : 10 ^ n ≤ 10 ^ 9 := Nat.pow_le_pow_right (by decide) hn
  have h9 : (10 : Nat) ^ 9 = 1000000000 := by decide
  have key := loop_up0 (k := K) (b := P.i_readNat_b7 g) (n := n) (st := fun i => ((i : Int), (n : Int), ((10 ^ i : Nat) : Int), nd B32 p, (v : Int), t, (n : Int), ())) (F := fun i => g (ByteArray.extract t n t.size, (nd B32 (p * 10 ^ n + v), ()))) (fun i g' hi hg' => by
    unfold P.i_readNat_b7
    dsimp only at hg' ⊢
    refine Eq.trans ?_ hg'
    have e1 : (i : Int) < (n : Int) := by omega
    have hpi : 10 ^ (i + 1) ≤ 10 ^ 9 := Nat.pow_le_pow_right (by decide) (by omega)
    rw [Nat.pow_succ] at hpi ⊢
    rw [if_pos (decide_eq_true e1), wr (by omega) (by omega), show ((10 ^ i : Nat) : Int) * 10 = ((10 ^ i * 10 : Nat) : Int) by omega, wu (by omega) (by omega)]
    rfl) (fun g' => by
    unfold P.i_readNat_b7
    dsimp only
    rw [if_neg (by simp)]
    unfold S.i_natOf S.i_nat_mul S.i_nat_add
    dsimp only
    have hl1 := rn_len hp
    have hl2 := rn_len (p := 10 ^ n) (m := 10) (by omega)
    have hl3 : (nd B32 (p * 10 ^ n)).length ≤ 209 := rn_len (by
      have : p * 10 ^ n < 10 ^ 200 * 10 ^ 9 := Nat.mul_lt_mul_of_lt_of_le hp hp9 (Nat.pow_pos (by decide))
      rwa [← Nat.pow_add] at this)
    have hl4 := rn_len (p := v) (m := 9) (by omega)
    rw [if_pos ⟨by omega, by omega⟩, Option.bind_some, Int.toNat_natCast]
    dsimp only
    rw [if_pos ⟨dig_nd B32_le _, dig_nd B32_le _, by omega, by omega⟩, Option.bind_some, if_pos ⟨by omega, by omega⟩, Option.bind_some, Int.toNat_natCast]
    dsimp only
    rw [dval_nd B32_le, dval_nd B32_le, if_pos ⟨dig_nd B32_le _, dig_nd B32_le _, by omega, by omega⟩, Option.bind_some, dval_nd B32_le, dval_nd B32_le]
    have c1 : (0 : Int) ≤ (t.size : Int) := by omega
    have c2 : (0 : Int) ≤ (n : Int) := by omega
    have c3 : (n : Int) ≤ (t.size : Int) := by omega
    rw [if_pos (decide_eq_true c1), if_pos (decide_eq_true (Int.le_refl _)), if_pos (decide_eq_true c2), if_pos (decide_eq_true c3), Int.toNat_natCast, Int.toNat_natCast]) hK
  exact key
theorem rn_loop (K : Nat) (hK : 10 ≤ K) (m : Nat) : ∀ (t : ByteArray) (p k : Nat), t.data.toList.length = m → allD t.data.toList = true → m ≤ 200 → p < 10 ^ (200 - m) → m < k →
    loopP (P.i_readNat_b3 K) k (t, (nd B32 p, ())) = some ((nd B32 (p * 10 ^ m + dv t.data.toList), true), ()) := by
  induction m using Nat.strongRecOn with
  | ind m ih =>
    intro t p k hm hd hm2 hp hk
    obtain ⟨k, rfl⟩ : ∃ j, k = j + 1 := ⟨k - 1, by omega⟩
    rw [loopP_succ]
    have hs : t.size = t.data.toList.length := by rw [Array.length_toList]; rfl
    have hstep : ∀ n : Nat, 0 < n → n ≤ 9 → n ≤ m → Option.bind (S.strconv_ParseUint (ByteArray.extract t 0 n, (10, (64, ())))) (fun (y6 : ((Int × Bool) × Unit)) => (Go.Cm.loopP (P.i_readNat_b7 (loopP (P.i_readNat_b3 K) k)) K ((0 : Int) , ((n : Int) , ((1 : Int) , (nd B32 p , (y6.1.1 , (t , ((n : Int) , ()))))))))) = some ((nd B32 (p * 10 ^ m + dv t.data.toList), true), ()) := by
      intro n hn0 hn9 hnm
      have hx : (ByteArray.extract t 0 n).data.toList = t.data.toList.take n := by rw [ext_list, List.drop_zero]
      have hxl : (t.data.toList.take n).length = n := by simp; omega
      have hxs : (ByteArray.extract t 0 n).size = n := by
        have : (ByteArray.extract t 0 n).size = (ByteArray.extract t 0 n).data.toList.length := by rw [Array.length_toList]; rfl
        rw [this, hx, hxl]
      have hdx := allD_take hd n
      have hpar := parse_dv (t.data.toList.take n) hdx (by intro q; rw [q] at hxl; simp at hxl; omega) (by omega)
      unfold S.strconv_ParseUint
      dsimp only
      rw [if_pos ⟨rfl, rfl, by omega⟩, hx, hpar, Option.bind_some]
      dsimp only
      have hv := dv_lt hdx
      rw [hxl] at hv
      have hp200 : p < 10 ^ 200 := Nat.lt_of_lt_of_le hp (Nat.pow_le_pow_right (by decide) (by omega))
      rw [rn_times _ t p _ n hn9 hv hp200 (by omega) K (by omega)]
      have hd2 : (ByteArray.extract t n t.size).data.toList = t.data.toList.drop n := by
        rw [ext_list, List.take_of_length_le (by omega)]
      have hl2 : (t.data.toList.drop n).length = m - n := by simp; omega
      have hb : p * 10 ^ n + dv (t.data.toList.take n) < 10 ^ (200 - (m - n)) := by
        have h1 : (p + 1) * 10 ^ n ≤ 10 ^ (200 - m) * 10 ^ n := Nat.mul_le_mul_right _ hp
        rw [← Nat.pow_add, show 200 - m + n = 200 - (m - n) by omega, Nat.add_mul, Nat.one_mul] at h1
        omega
      rw [ih (m - n) (by omega) _ _ k (by rw [hd2, hl2]) (by rw [hd2]; exact allD_drop hd n) (by omega) hb (by omega), hd2]
      have h3 := dv_append (t.data.toList.take n) (t.data.toList.drop n)
      rw [List.take_append_drop, hl2] at h3
      rw [h3, Nat.add_mul, Nat.mul_assoc, ← Nat.pow_add, show n + (m - n) = m by omega, Nat.add_assoc]
    generalize loopP (P.i_readNat_b3 K) k = G at hstep ⊢
    unfold P.i_readNat_b3
    dsimp only
    have hbs : ByteArray.toList (bs []) = [] := by rw [ByteArray.toList_eq]; rfl
    rw [hbs, ByteArray.toList_eq, hs, hm]
    by_cases h0 : m = 0
    · subst h0
      have : t.data.toList = [] := List.eq_nil_of_length_eq_zero hm
      rw [this, if_neg (by simp), Nat.pow_zero, Nat.mul_one, show dv [] = 0 from rfl, Nat.add_zero]
    · have hne : t.data.toList ≠ [] := by
        intro q
        rw [q] at hm
        simp at hm
        omega
      have hmod : Int.tmod (m : Int) 9 = ((m % 9 : Nat) : Int) := by
        rw [Int.tmod_eq_emod_of_nonneg (by omega)]
        omega
      rw [if_pos (by simpa using hne), hmod]
      by_cases h9 : m % 9 = 0
      · have c1 : (9 : Int) ≤ (m : Int) := by omega
        rw [if_pos (by simp [h9]), if_pos (decide_eq_true c1)]
        exact hstep 9 (by omega) (by omega) (by omega)
      · have c1 : (0 : Int) ≤ ((m % 9 : Nat) : Int) := by omega
        have c2 : ((m % 9 : Nat) : Int) ≤ (m : Int) := by omega
        rw [if_neg (by simp; omega), if_pos (decide_eq_true c1), if_pos (decide_eq_true c2), if_pos (decide_eq_true c1), Int.toNat_natCast]
        exact hstep (m % 9) (by omega) (by omega) (by omega)
theorem rn_scan (b : Nat → (Int × (Int × (ByteArray × ((List Int) × Unit)))) → ((Int × (Int × (ByteArray × ((List Int) × Unit)))) → Option (((List Int) × Bool) × Unit)) → Option (((List Int) × Bool) × Unit)) (hbb : b = P.i_readNat_b0) (t : ByteArray) (hl : t.data.toList.length ≤ 200) (K : Nat) (hK : 300 ≤ K) :
    loopP (b K) K ((0 : Int), ((t.size : Int), (t, ([], ())))) = some (if allD t.data.toList = true then (nd B32 (dv t.data.toList), true) else ([], false), ()) := by
  subst hbb
  have hs : t.size = t.data.toList.length := by rw [Array.length_toList]; rfl
  rw [hs]
  have hloop := rn_loop K (by omega) t.data.toList.length t 0 K rfl
  generalize hL : t.data.toList = l at *
  have key : ∀ d i k : Nat, i + d = l.length → d < k → allD (l.take i) = true → loopP (P.i_readNat_b0 K) k ((i : Int), ((l.length : Int), (t, (([] : List Int), ())))) = some (if allD l = true then (nd B32 (dv l), true) else ([], false), ()) := by
    intro d
    induction d with
    | zero =>
      intro i k hi hk hd
      obtain ⟨k, rfl⟩ : ∃ j, k = j + 1 := ⟨k - 1, by omega⟩
      have : i = l.length := by omega
      subst this
      rw [List.take_length] at hd
      rw [loopP_succ]
      unfold P.i_readNat_b0
      dsimp only
      rw [if_neg (by simp), if_pos hd]
      have := hloop hd hl (Nat.pow_pos (by decide)) (by omega)
      rw [nd_zero B32_le, Nat.zero_mul, Nat.zero_add] at this
      exact this
    | succ d ih =>
      intro i k hi hk hd
      obtain ⟨k, rfl⟩ : ∃ j, k = j + 1 := ⟨k - 1, by omega⟩
      have hil : i < l.length := by omega
      rw [loopP_succ]
      unfold P.i_readNat_b0
      dsimp only
      have e1 : (i : Int) < (l.length : Int) := by omega
      have e2 : (0 : Int) ≤ (i : Int) := by omega
      have hb : byteAt t (i : Int) = (l[i].toNat : Int) := by
        unfold byteAt
        rw [hL, getD_cast l i _ hil]
      have ha2 : allD (l.take (i + 1)) = (allD (l.take i) && isD l[i]) := by
        rw [← List.take_append_getElem hil, allD_append]
        simp [allD]
      have ha3 : allD l = true → isD l[i] = true := fun q => decide_eq_true (allD_get q hil)
      rw [hs, hb, wr (x := (i : Int) + 1) (by omega) (by omega)]
      simp only [e1, e2, decide_true, if_true]
      by_cases c1 : 48 ≤ l[i].toNat
      · rw [if_neg (by simp; omega)]
        by_cases c2 : l[i].toNat ≤ 57
        · have : isD l[i] = true := decide_eq_true ⟨c1, c2⟩
          rw [this, Bool.and_true] at ha2
          rw [if_neg (by simp; omega)]
          exact ih (i + 1) k (by omega) (by omega) (by rw [ha2]; exact hd)
        · have : isD l[i] = false := decide_eq_false (fun q => c2 q.2)
          rw [if_pos (decide_eq_true (by omega)), if_neg (fun q => by rw [ha3 q] at this; cases this)]
      · have : isD l[i] = false := decide_eq_false (fun q => c1 q.1)
        rw [if_pos (decide_eq_true (by omega)), if_neg (fun q => by rw [ha3 q] at this; cases this)]
  exact key l.length 0 K (by omega) (by omega) rfl
def S.i_readNat (x : (ByteArray × Unit)) : (Option (((List Int) × Bool) × Unit)) := some (if okN x.1.data.toList = true then (nd B32 (dv x.1.data.toList), true) else ([], false), ())
theorem S.i_readNat_ok (x : (ByteArray × Unit)) (r : _) (h : S.i_readNat x = some r) : ∃ k, P.i_readNat k x = some r := by
  obtain ⟨t, u⟩ := x
  unfold S.i_readNat at h
  dsimp only at h
  refine ⟨300, ?_⟩
  rw [← h]
  unfold P.i_readNat
  dsimp only
  have hs : t.size = t.data.toList.length := by rw [Array.length_toList]; rfl
  have hbs : ByteArray.toList (bs []) = [] := by rw [ByteArray.toList_eq]; rfl
  rw [hbs, ByteArray.toList_eq]
  have hscan := rn_scan P.i_readNat_b0 rfl t
  have hscan2 := rn_scan P.i_readNat_b22 rfl t
  unfold okN okR
  by_cases h1 : t.data.toList = []
  · rw [h1, if_pos (by rfl)]
    rfl
  · have hpos : 0 < t.data.toList.length := List.length_pos_iff.2 h1
    rw [if_neg (by simpa using h1), decide_eq_true h1, Bool.true_and, hs]
    by_cases h2 : t.data.toList.length ≤ 200
    · have d2 : ¬ (t.data.toList.length : Int) > 200 := by omega
      have d3 : (0 : Int) < (t.data.toList.length : Int) := by omega
      rw [if_neg (by simpa using d2), if_pos (decide_eq_true d3), decide_eq_true h2, Bool.true_and]
      have s1 := hscan h2 300 (by omega)
      have s2 := hscan2 h2 300 (by omega)
      rw [hs] at s1 s2
      have hb : byteAt t 0 = (t.data.toList[0].toNat : Int) := by
        exact congrArg (fun c : UInt8 => (c.toNat : Int)) (getD_cast t.data.toList 0 0 hpos)
      have hh : t.data.toList.head? = some t.data.toList[0] := by
        generalize t.data.toList = l at *
        cases l with
        | nil => simp at h1
        | cons c r => rfl
      rw [hb, hh]
      by_cases c1 : t.data.toList[0] = 48
      · rw [c1, if_pos (by rfl)]
        by_cases h3 : t.data.toList.length = 1
        · have d4 : ¬ (t.data.toList.length : Int) > 1 := by omega
          rw [if_neg (by simpa using d4), s1, decide_eq_true h3, Bool.true_or, Bool.and_true]
        · have d4 : (t.data.toList.length : Int) > 1 := by omega
          rw [if_pos (decide_eq_true d4), decide_eq_false h3, Bool.false_or, decide_eq_false (by simp), Bool.and_false, if_neg (by simp)]
      · have c2 : ¬ ((t.data.toList[0].toNat : Int) = 48) := by
          intro q
          apply c1
          apply UInt8.toNat_inj.1
          show _ = 48
          omega
        rw [if_neg (by simpa using c2), s2, decide_eq_true (p := some t.data.toList[0] ≠ some 48) (by simpa using c1), Bool.or_true, Bool.and_true]
    · have d2 : (t.data.toList.length : Int) > 200 := by omega
      rw [if_pos (decide_eq_true d2), decide_eq_false h2, Bool.false_and, Bool.and_false, if_neg (by simp)]
def P.i_readRat (k : Nat) (x : (ByteArray × Unit)) : (Option (((Bool × ((List Int) × (List Int))) × Bool) × Unit)) :=
 (Option.bind (S.strings_Cut (x.1 , ((bs [47]) , ()))) (fun (y0 : ((ByteArray × (ByteArray × Bool)) × Unit)) => (Option.bind (S.strings_CutPrefix (y0.1.1 , ((bs [45]) , ()))) (fun (y1 : ((ByteArray × Bool) × Unit)) => (Option.bind (S.i_readNat (y1.1.1 , ())) (fun (y2 : (((List Int) × Bool) × Unit)) => (if ((!y2.1.2) = true) then (some (((false , (([] : List Int) , ([] : List Int))) , false) , ()))
 else (if (y1.1.2 = true) then (if (((((List.length y2.1.1) : Nat) : Int) == (0 : Int)) = true) then (some (((false , (([] : List Int) , ([] : List Int))) , false) , ()))
 else (Option.bind (S.i_natOf ((1 : Int) , ())) (fun (y3 : ((List Int) × Unit)) => (if ((!y0.1.2.2) = true) then (some (((y1.1.2 , (y2.1.1 , y3.1)) , true) , ()))
 else (Option.bind (S.i_readNat (y0.1.2.1 , ())) (fun (y4 : (((List Int) × Bool) × Unit)) => (if ((!y4.1.2) = true) then (some (((false , (([] : List Int) , ([] : List Int))) , false) , ()))
 else (Option.bind (S.i_natOf ((1 : Int) , ())) (fun (y5 : ((List Int) × Unit)) => (Option.bind (S.i_nat_cmp (y4.1.1 , (y5.1 , ()))) (fun (y6 : (Int × Unit)) => (if ((decide (y6.1 ≤ (0 : Int))) = true) then (some (((false , (([] : List Int) , ([] : List Int))) , false) , ()))
 else (Option.bind (S.i_nat_gcd (y2.1.1 , (y4.1.1 , ()))) (fun (y7 : ((List Int) × Unit)) => (Option.bind (S.i_natOf ((1 : Int) , ())) (fun (y8 : ((List Int) × Unit)) => (Option.bind (S.i_nat_cmp (y7.1 , (y8.1 , ()))) (fun (y9 : (Int × Unit)) => (if ((y9.1 != (0 : Int)) = true) then (some (((false , (([] : List Int) , ([] : List Int))) , false) , ()))
 else (some (((y1.1.2 , (y2.1.1 , y4.1.1)) , true) , ())))))))))))))))))))))
 else (Option.bind (S.i_natOf ((1 : Int) , ())) (fun (y10 : ((List Int) × Unit)) => (if ((!y0.1.2.2) = true) then (some (((y1.1.2 , (y2.1.1 , y10.1)) , true) , ()))
 else (Option.bind (S.i_readNat (y0.1.2.1 , ())) (fun (y11 : (((List Int) × Bool) × Unit)) => (if ((!y11.1.2) = true) then (some (((false , (([] : List Int) , ([] : List Int))) , false) , ()))
 else (Option.bind (S.i_natOf ((1 : Int) , ())) (fun (y12 : ((List Int) × Unit)) => (Option.bind (S.i_nat_cmp (y11.1.1 , (y12.1 , ()))) (fun (y13 : (Int × Unit)) => (if ((decide (y13.1 ≤ (0 : Int))) = true) then (some (((false , (([] : List Int) , ([] : List Int))) , false) , ()))
 else (Option.bind (S.i_nat_gcd (y2.1.1 , (y11.1.1 , ()))) (fun (y14 : ((List Int) × Unit)) => (Option.bind (S.i_natOf ((1 : Int) , ())) (fun (y15 : ((List Int) × Unit)) => (Option.bind (S.i_nat_cmp (y14.1 , (y15.1 , ()))) (fun (y16 : (Int × Unit)) => (if ((y16.1 != (0 : Int)) = true) then (some (((false , (([] : List Int) , ([] : List Int))) , false) , ()))
 else (some (((y1.1.2 , (y2.1.1 , y11.1.1)) , true) , ()))))))))))))))))))))))))))))
def S.i_readRat (x : (ByteArray × Unit)) : (Option (((Bool × ((List Int) × (List Int))) × Bool) × Unit)) := if x.1.size < 4294967281 then some ((rp B32 (rdRat x.1.data.toList).1, (rdRat x.1.data.toList).2), ()) else none
theorem rr_bad : ((false, (([] : List Int), ([] : List Int))), false) = (rp B32 noQ.1, noQ.2) := by
  unfold noQ rp
  dsimp only
  rw [nd_zero B32_le]
theorem natOf_one : S.i_natOf (1, ()) = some (nd B32 1, ()) := by
  unfold S.i_natOf
  rfl
/-- What follows the first number. -/
theorem rr_rest (neg : Bool) (c : List UInt8 × List UInt8 × Bool) (hok : okN c.1 = true) (hn : ¬ (neg = true ∧ dv c.1 = 0)) :
    (Option.bind (S.i_natOf ((1 : Int) , ())) (fun (y10 : ((List Int) × Unit)) => (if ((!c.2.2) = true) then (some (((neg , (nd B32 (dv c.1) , y10.1)) , true) , ()))
 else (Option.bind (S.i_readNat ((⟨c.2.1.toArray⟩ : ByteArray) , ())) (fun (y11 : (((List Int) × Bool) × Unit)) => (if ((!y11.1.2) = true) then (some (((false , (([] : List Int) , ([] : List Int))) , false) , ()))
 else (Option.bind (S.i_natOf ((1 : Int) , ())) (fun (y12 : ((List Int) × Unit)) => (Option.bind (S.i_nat_cmp (y11.1.1 , (y12.1 , ()))) (fun (y13 : (Int × Unit)) => (if ((decide (y13.1 ≤ (0 : Int))) = true) then (some (((false , (([] : List Int) , ([] : List Int))) , false) , ()))
 else (Option.bind (S.i_nat_gcd (nd B32 (dv c.1) , (y11.1.1 , ()))) (fun (y14 : ((List Int) × Unit)) => (Option.bind (S.i_natOf ((1 : Int) , ())) (fun (y15 : ((List Int) × Unit)) => (Option.bind (S.i_nat_cmp (y14.1 , (y15.1 , ()))) (fun (y16 : (Int × Unit)) => (if ((y16.1 != (0 : Int)) = true) then (some (((false , (([] : List Int) , ([] : List Int))) , false) , ()))
 else (some (((neg , (nd B32 (dv c.1) , y11.1.1)) , true) , ())))))))))))))))))))) = some ((rp B32 (rdBody neg c).1, (rdBody neg c).2), ()) := by
  have hbody : rdBody neg c = (if c.2.2 = true then (if okN c.2.1 = true ∧ 1 < dv c.2.1 ∧ Nat.gcd (dv c.1) (dv c.2.1) = 1 then ((neg, (dv c.1, dv c.2.1)), true) else noQ) else ((neg, (dv c.1, 1)), true)) := if_pos ⟨hok, hn⟩
  rw [natOf_one, Option.bind_some, rr_bad, hbody]
  obtain ⟨a, b, f⟩ := c
  dsimp only at *
  cases f
  · rfl
  · rw [if_neg (by decide), if_pos rfl]
    unfold S.i_readNat
    rw [Option.bind_some]
    dsimp only
    cases hb : okN b
    · have hx : ¬ ((false : Bool) = true ∧ 1 < dv b ∧ Nat.gcd (dv a) (dv b) = 1) := fun q => by cases q.1
      rw [if_neg hx]
      rfl
    · have lb := nd_len200 (B := B32) (by decide) (okN_lt hb)
      have la := nd_len200 (B := B32) (by decide) (okN_lt hok)
      have e1 : S.i_nat_cmp (nd B32 (dv b), (nd B32 1, ())) = some (cmpN (dv b) 1, ()) := by
        unfold S.i_nat_cmp
        dsimp only
        rw [if_pos ⟨canon_nd B32_le _, canon_nd B32_le _, by omega⟩, dval_nd B32_le, dval_nd B32_le]
      have e2 : S.i_nat_gcd (nd B32 (dv a), (nd B32 (dv b), ())) = some (nd B32 (Nat.gcd (dv a) (dv b)), ()) := by
        unfold S.i_nat_gcd
        dsimp only
        rw [if_pos ⟨canon_nd B32_le _, canon_nd B32_le _, by omega, by omega⟩, dval_nd B32_le, dval_nd B32_le]
      show (Option.bind (S.i_natOf ((1 : Int) , ())) (fun (y12 : ((List Int) × Unit)) => (Option.bind (S.i_nat_cmp (nd B32 (dv b) , (y12.1 , ()))) (fun (y13 : (Int × Unit)) => (if ((decide (y13.1 ≤ (0 : Int))) = true) then (some ((rp B32 noQ.1 , noQ.2) , ()))
 else (Option.bind (S.i_nat_gcd (nd B32 (dv a) , (nd B32 (dv b) , ()))) (fun (y14 : ((List Int) × Unit)) => (Option.bind (S.i_natOf ((1 : Int) , ())) (fun (y15 : ((List Int) × Unit)) => (Option.bind (S.i_nat_cmp (y14.1 , (y15.1 , ()))) (fun (y16 : (Int × Unit)) => (if ((y16.1 != (0 : Int)) = true) then (some ((rp B32 noQ.1 , noQ.2) , ()))
 else (some (((neg , (nd B32 (dv a) , nd B32 (dv b))) , true) , ())))))))))))))) = _
      rw [natOf_one, Option.bind_some]
      dsimp only
      rw [e1, Option.bind_some]
      dsimp only
      by_cases h1 : 1 < dv b
      · have hc : ¬ (cmpN (dv b) 1 ≤ 0) := by
          have := (cmpN_gt (a := dv b) (b := 1)).2 h1
          omega
        have lg : (nd B32 (Nat.gcd (dv a) (dv b))).length ≤ 200 := Nat.le_trans (nd_shorter' B32_le (Nat.le_of_dvd (by omega) (Nat.gcd_dvd_right _ _))) lb
        have e3 : S.i_nat_cmp (nd B32 (Nat.gcd (dv a) (dv b)), (nd B32 1, ())) = some (cmpN (Nat.gcd (dv a) (dv b)) 1, ()) := by
          unfold S.i_nat_cmp
          dsimp only
          rw [if_pos ⟨canon_nd B32_le _, canon_nd B32_le _, by omega⟩, dval_nd B32_le, dval_nd B32_le]
        rw [if_neg (by simpa using hc), e2, Option.bind_some, Option.bind_some]
        dsimp only
        rw [e3, Option.bind_some]
        dsimp only
        by_cases hg : Nat.gcd (dv a) (dv b) = 1
        · rw [if_neg (by simpa using cmpN_zero.2 hg), if_pos ⟨rfl, h1, hg⟩]
          rfl
        · rw [if_pos (by simpa using fun q => hg (cmpN_zero.1 q)), if_neg (fun q => hg q.2.2)]
      · have hc : cmpN (dv b) 1 ≤ 0 := by
          have h2 : ¬ (cmpN (dv b) 1 > 0) := fun q => h1 ((cmpN_gt (a := dv b) (b := 1)).1 q)
          omega
        rw [if_pos (decide_eq_true hc), if_neg (fun q => h1 q.2.1)]
theorem S.i_readRat_ok (x : (ByteArray × Unit)) (r : _) (h : S.i_readRat x = some r) : ∃ k, P.i_readRat k x = some r := by
  obtain ⟨s, u⟩ := x
  unfold S.i_readRat at h
  dsimp only at h
  split at h
  case isFalse => cases h
  rename_i hsz
  refine ⟨0, ?_⟩
  rw [← h]
  unfold P.i_readRat
  dsimp only
  have e0 : S.strings_Cut (s, (bs [47], ())) = some ((⟨(cutP 47 s.data.toList).1.toArray⟩, (⟨(cutP 47 s.data.toList).2.1.toArray⟩, (cutP 47 s.data.toList).2.2)), ()) := by
    unfold S.strings_Cut
    dsimp only
    rw [if_pos hsz, show (bs [47]).data.toList = [47] from rfl, cut_cutP]
  have e1 : ∀ l : List UInt8, S.strings_CutPrefix (⟨l.toArray⟩, (bs [45], ())) = some ((⟨(if l.head? = some 45 then l.tail else l).toArray⟩, decide (l.head? = some 45)), ()) := by
    intro l
    unfold S.strings_CutPrefix Go.Lib.trimPrefix Go.Lib.hasPrefix
    dsimp only
    rw [show (bs [45]).data.toList = [45] from rfl]
    cases l with
    | nil => rfl
    | cons b r =>
      by_cases hb : b = 45
      · subst hb
        simp
      · have hb' : ¬ (45 = b) := fun q => hb q.symm
        have hp : ([45].isPrefixOf (b :: r)) = false := by
          show ((45 : UInt8) == b && ([] : List UInt8).isPrefixOf r) = false
          rw [show ((45 : UInt8) == b) = false from beq_eq_false_iff_ne.2 hb', Bool.false_and]
        have hh : ¬ ((b :: r).head? = some 45) := by simpa using hb
        rw [hp, if_neg (by decide), if_neg hh, decide_eq_false hh]
  rw [e0, Option.bind_some]
  dsimp only
  rw [e1, Option.bind_some]
  dsimp only
  generalize s.data.toList = l at *
  -- both ways to take the sign off
  have hcut : ∃ (neg : Bool) (c : List UInt8 × List UInt8 × Bool), decide ((cutP 47 l).1.head? = some 45) = neg ∧ (if (cutP 47 l).1.head? = some 45 then (cutP 47 l).1.tail else (cutP 47 l).1) = c.1 ∧ (cutP 47 l).2.1 = c.2.1 ∧ (cutP 47 l).2.2 = c.2.2 ∧ rdRat l = rdBody neg c := by
    unfold rdRat
    cases l with
    | nil => exact ⟨false, cutP 47 [], rfl, rfl, rfl, rfl, rfl⟩
    | cons b r =>
      by_cases hb : b = 45
      · subst hb
        have hc : cutP 47 (45 :: r) = (45 :: (cutP 47 r).1, (cutP 47 r).2.1, (cutP 47 r).2.2) := by rw [cutP_cons, if_neg (by decide)]
        rw [hc]
        exact ⟨true, cutP 47 r, rfl, rfl, rfl, rfl, rfl⟩
      · have hh : ¬ ((cutP 47 (b :: r)).1.head? = some 45) := by
          rw [cutP_cons]
          split
          · simp
          · simpa using hb
        refine ⟨false, cutP 47 (b :: r), decide_eq_false hh, if_neg hh, rfl, rfl, ?_⟩
        rw [if_neg (by simpa using hb)]
  obtain ⟨neg, c, h1, h2, h3, h4, h5⟩ := hcut
  rw [h1, h2, h3, h4, h5]
  have e2 : S.i_readNat (⟨c.1.toArray⟩, ()) = some (if okN c.1 = true then (nd B32 (dv c.1), true) else ([], false), ()) := rfl
  rw [e2, Option.bind_some]
  cases hok : okN c.1
  · have : rdBody neg c = noQ := by
      unfold rdBody
      rw [if_neg (fun q => by rw [hok] at q; cases q.1)]
    rw [this, ← rr_bad]
    rfl
  · rw [if_pos rfl]
    dsimp only
    rw [if_neg (show ¬ ((!true) = true) by decide)]
    have hz : (((nd B32 (dv c.1)).length : Int) == 0) = decide (dv c.1 = 0) := by
      have := canon_nil B32_le (canon_nd B32_le (dv c.1))
      rw [dval_nd B32_le] at this
      by_cases h0 : dv c.1 = 0
      · rw [this.2 h0, h0]; rfl
      · have hne := fun q => h0 (this.1 q)
        rw [decide_eq_false h0]
        simpa using hne
    cases neg
    · rw [if_neg (by decide)]
      exact rr_rest false c hok (fun q => by cases q.1)
    · rw [if_pos rfl, hz]
      by_cases h0 : dv c.1 = 0
      · have : rdBody true c = noQ := by
          unfold rdBody
          rw [if_neg (fun q => q.2 ⟨rfl, h0⟩)]
        rw [if_pos (decide_eq_true h0), this, ← rr_bad]
      · rw [if_neg (by simpa using h0)]
        exact rr_rest true c hok (fun q => h0 q.2)
def P.i_two (k : Nat) (x : (ByteArray × (ByteArray × Unit))) : (Option (((Bool × ((List Int) × (List Int))) × ((Bool × ((List Int) × (List Int))) × Bool)) × Unit)) :=
 (Option.bind (S.i_readRat (x.1 , ())) (fun (y0 : (((Bool × ((List Int) × (List Int))) × Bool) × Unit)) => (Option.bind (S.i_readRat (x.2.1 , ())) (fun (y1 : (((Bool × ((List Int) × (List Int))) × Bool) × Unit)) => (if (y0.1.2 = true) then (some (((y0.1.1.1 , (y0.1.1.2.1 , y0.1.1.2.2)) , ((y1.1.1.1 , (y1.1.1.2.1 , y1.1.1.2.2)) , y1.1.2)) , ()))
 else (some (((y0.1.1.1 , (y0.1.1.2.1 , y0.1.1.2.2)) , ((y1.1.1.1 , (y1.1.1.2.1 , y1.1.1.2.2)) , false)) , ())))))))
def S.i_two (x : (ByteArray × (ByteArray × Unit))) : (Option (((Bool × ((List Int) × (List Int))) × ((Bool × ((List Int) × (List Int))) × Bool)) × Unit)) := P.i_two 0 x
theorem S.i_two_ok (x : (ByteArray × (ByteArray × Unit))) (r : _) (h : S.i_two x = some r) : ∃ k, P.i_two k x = some r := ⟨0, h⟩
def P.i_withTwosub (k : Nat) (x : (ByteArray × (ByteArray × (Unit × Unit)))) : (Option ((ByteArray × Bool) × Unit)) :=
 (Option.bind (S.i_two (x.1 , (x.2.1 , ()))) (fun (y0 : (((Bool × ((List Int) × (List Int))) × ((Bool × ((List Int) × (List Int))) × Bool)) × Unit)) => (if ((!y0.1.2.2) = true) then (some (((bs []) , false) , ()))
 else (Option.bind (S.i_rat_sub ((y0.1.1.1 , (y0.1.1.2.1 , y0.1.1.2.2)) , ((y0.1.2.1.1 , (y0.1.2.1.2.1 , y0.1.2.1.2.2)) , ()))) (fun (y1 : ((Bool × ((List Int) × (List Int))) × Unit)) => (Option.bind (S.i_told ((y1.1.1 , (y1.1.2.1 , y1.1.2.2)) , ())) (fun (y2 : ((ByteArray × Bool) × Unit)) => (some ((y2.1.1 , y2.1.2) , ())))))))))
def S.i_withTwosub (x : (ByteArray × (ByteArray × (Unit × Unit)))) : (Option ((ByteArray × Bool) × Unit)) := P.i_withTwosub 0 x
theorem S.i_withTwosub_ok (x : (ByteArray × (ByteArray × (Unit × Unit)))) (r : _) (h : S.i_withTwosub x = some r) : ∃ k, P.i_withTwosub k x = some r := ⟨0, h⟩
def P.i_LessFraction (k : Nat) (x : (ByteArray × (ByteArray × Unit))) : (Option ((ByteArray × Bool) × Unit)) :=
 (Option.bind (S.i_withTwosub (x.1 , (x.2.1 , (() , ())))) (fun (y0 : ((ByteArray × Bool) × Unit)) => (some ((y0.1.1 , y0.1.2) , ()))))
def S.i_LessFraction (x : (ByteArray × (ByteArray × Unit))) : (Option ((ByteArray × Bool) × Unit)) := P.i_LessFraction 0 x
theorem S.i_LessFraction_ok (x : (ByteArray × (ByteArray × Unit))) (r : _) (h : S.i_LessFraction x = some r) : ∃ k, P.i_LessFraction k x = some r := ⟨0, h⟩
abbrev P.s_l01Dec_b0  (x1 : ((List Int) × (Int × (Int × Unit)))) (g2 : ((List Int) × (Int × (Int × Unit))) → Option (ByteArray × Unit)) : Option (ByteArray × Unit) :=
 (if (((((List.length x1.1) : Nat) : Int) == (0 : Int)) = true) then (if ((decide ((Int.tmod x1.2.1 (10 : Int)) < (0 : Int))) = true) then (if ((decide ((((List.length ((Go.IntKind.wrap Go.IntKind.u8 (Go.IntKind.wrap Go.IntKind.i64 ((48 : Int) + (Go.IntKind.wrap Go.IntKind.i64 ((0 : Int) - (Int.tmod x1.2.1 (10 : Int))))))) :: ([] : List Int))) + (List.length x1.1)) * (1 : Nat)) ≤ (140737488355328 : Nat))) = true) then (g2 ((((Go.IntKind.wrap Go.IntKind.u8 (Go.IntKind.wrap Go.IntKind.i64 ((48 : Int) + (Go.IntKind.wrap Go.IntKind.i64 ((0 : Int) - (Int.tmod x1.2.1 (10 : Int))))))) :: ([] : List Int)) ++ x1.1) , ((Go.IntKind.wrap Go.IntKind.i64 (Int.tdiv x1.2.1 (10 : Int))) , (x1.2.2.1 , ()))))
 else none)
 else (if ((decide ((((List.length ((Go.IntKind.wrap Go.IntKind.u8 (Go.IntKind.wrap Go.IntKind.i64 ((48 : Int) + (Int.tmod x1.2.1 (10 : Int))))) :: ([] : List Int))) + (List.length x1.1)) * (1 : Nat)) ≤ (140737488355328 : Nat))) = true) then (g2 ((((Go.IntKind.wrap Go.IntKind.u8 (Go.IntKind.wrap Go.IntKind.i64 ((48 : Int) + (Int.tmod x1.2.1 (10 : Int))))) :: ([] : List Int)) ++ x1.1) , ((Go.IntKind.wrap Go.IntKind.i64 (Int.tdiv x1.2.1 (10 : Int))) , (x1.2.2.1 , ()))))
 else none))
 else (if ((x1.2.1 != (0 : Int)) = true) then (if ((decide ((Int.tmod x1.2.1 (10 : Int)) < (0 : Int))) = true) then (if ((decide ((((List.length ((Go.IntKind.wrap Go.IntKind.u8 (Go.IntKind.wrap Go.IntKind.i64 ((48 : Int) + (Go.IntKind.wrap Go.IntKind.i64 ((0 : Int) - (Int.tmod x1.2.1 (10 : Int))))))) :: ([] : List Int))) + (List.length x1.1)) * (1 : Nat)) ≤ (140737488355328 : Nat))) = true) then (g2 ((((Go.IntKind.wrap Go.IntKind.u8 (Go.IntKind.wrap Go.IntKind.i64 ((48 : Int) + (Go.IntKind.wrap Go.IntKind.i64 ((0 : Int) - (Int.tmod x1.2.1 (10 : Int))))))) :: ([] : List Int)) ++ x1.1) , ((Go.IntKind.wrap Go.IntKind.i64 (Int.tdiv x1.2.1 (10 : Int))) , (x1.2.2.1 , ()))))
 else none)
 else (if ((decide ((((List.length ((Go.IntKind.wrap Go.IntKind.u8 (Go.IntKind.wrap Go.IntKind.i64 ((48 : Int) + (Int.tmod x1.2.1 (10 : Int))))) :: ([] : List Int))) + (List.length x1.1)) * (1 : Nat)) ≤ (140737488355328 : Nat))) = true) then (g2 ((((Go.IntKind.wrap Go.IntKind.u8 (Go.IntKind.wrap Go.IntKind.i64 ((48 : Int) + (Int.tmod x1.2.1 (10 : Int))))) :: ([] : List Int)) ++ x1.1) , ((Go.IntKind.wrap Go.IntKind.i64 (Int.tdiv x1.2.1 (10 : Int))) , (x1.2.2.1 , ()))))
 else none))
 else (if ((decide (x1.2.2.1 < (0 : Int))) = true) then (if ((decide ((((1 : Nat) + (List.length x1.1)) * (1 : Nat)) ≤ (140737488355328 : Nat))) = true) then (some ((strOf (((45 : Int) :: ([] : List Int)) ++ x1.1)) , ()))
 else none)
 else (some ((strOf x1.1) , ())))))
def P.s_l01Dec (k : Nat) (x : (Int × Unit)) : (Option (ByteArray × Unit)) :=
 (loopP (X := ((List Int) × (Int × (Int × Unit)))) (R := (ByteArray × Unit)) (P.s_l01Dec_b0 ) k (([] : List Int) , (x.1 , (x.1 , ()))))
/-- A number's digits, as Go's bytes. -/
def digI (u : Nat) : List Int := (Go.Lib.decDigits u).map fun b => (b.toNat : Int)
theorem digI_small {u : Nat} (h : u < 10) : digI u = [48 + (u : Int)] := by
  unfold digI
  rw [Go.Lib.decDigits, dif_pos h]
  simp only [List.map_cons, List.map_nil, List.cons.injEq, and_true]
  rw [UInt8.toNat_ofNat']
  omega
theorem digI_step {u : Nat} (h : ¬ u < 10) : digI u = digI (u / 10) ++ [48 + ((u % 10 : Nat) : Int)] := by
  unfold digI
  rw [Go.Lib.decDigits, dif_neg h, List.map_append]
  simp only [List.map_cons, List.map_nil]
  rw [UInt8.toNat_ofNat']
  congr 2
  omega
theorem digI_len (u : Nat) : (digI u).length ≤ u + 1 := by
  induction u using Nat.strongRecOn with
  | ind u ih =>
    by_cases h : u < 10
    · rw [digI_small h]; simp
    · rw [digI_step h, List.length_append]
      have := ih (u / 10) (by omega)
      simp
      omega
theorem strOf_map (l : List UInt8) : strOf (l.map fun b => (b.toNat : Int)) = ⟨l.toArray⟩ := by
  unfold strOf
  rw [List.map_map]
  have : ((fun n : Int => UInt8.ofNat n.toNat) ∘ fun b : UInt8 => (b.toNat : Int)) = id := by
    funext b
    simp
  rw [this, List.map_id]
theorem wr8 {x : Int} (h0 : 0 ≤ x) (h1 : x ≤ 255) : Go.IntKind.wrap Go.IntKind.u8 x = x := by
  show x % 256 = x
  omega
def sgn (neg : Bool) (u : Nat) : Int := if neg = true then -(u : Int) else (u : Int)
theorem sgn_tmod (neg : Bool) (u : Nat) : Int.tmod (sgn neg u) 10 = sgn neg (u % 10) := by
  cases neg
  · show Int.tmod (u : Int) 10 = ((u % 10 : Nat) : Int)
    rw [Int.tmod_eq_emod_of_nonneg (by omega)]
    omega
  · show Int.tmod (-(u : Int)) 10 = -((u % 10 : Nat) : Int)
    rw [Int.neg_tmod, Int.tmod_eq_emod_of_nonneg (by omega)]
    omega
theorem sgn_tdiv (neg : Bool) (u : Nat) : Int.tdiv (sgn neg u) 10 = sgn neg (u / 10) := by
  cases neg
  · show Int.tdiv (u : Int) 10 = ((u / 10 : Nat) : Int)
    rw [Int.tdiv_eq_ediv_of_nonneg (by omega)]
    omega
  · show Int.tdiv (-(u : Int)) 10 = -((u / 10 : Nat) : Int)
    rw [Int.neg_tdiv, Int.tdiv_eq_ediv_of_nonneg (by omega)]
    omega
/-- One round writes one digit. -/
theorem dec_round (neg : Bool) (u : Nat) (n : Int) (out : List Int) (g : ((List Int) × (Int × (Int × Unit))) → Option (ByteArray × Unit)) (hu : u ≤ 9223372036854775808) (hs : neg = false → u ≤ 9223372036854775807) (ho : out.length ≤ 1000) (hc : out = [] ∨ u ≠ 0) :
    P.s_l01Dec_b0 (out, sgn neg u, n, ()) g = g ((48 + ((u % 10 : Nat) : Int)) :: out, sgn neg (u / 10), n, ()) := by
  have hw : Go.IntKind.wrap Go.IntKind.i64 (sgn neg (u / 10)) = sgn neg (u / 10) := by
    apply wr <;> unfold sgn <;> split <;> omega
  have hA : ∀ (a b : Option (ByteArray × Unit)), (if ((decide (sgn neg (u % 10) < (0 : Int))) = true) then a else b) = (if (sgn neg (u % 10) < 0) then a else b) := by
    intro a b
    by_cases h : sgn neg (u % 10) < 0 <;> simp [h]
  have hneg : sgn neg (u % 10) < 0 → Go.IntKind.wrap Go.IntKind.i64 ((0 : Int) - sgn neg (u % 10)) = ((u % 10 : Nat) : Int) := by
    intro h
    unfold sgn at h ⊢
    split at h
    · rename_i hn
      rw [if_pos hn, wr (by omega) (by omega)]
      omega
    · omega
  have hpos : ¬ sgn neg (u % 10) < 0 → sgn neg (u % 10) = ((u % 10 : Nat) : Int) := by
    intro h
    unfold sgn at h ⊢
    split at h
    · rename_i hn
      rw [if_pos hn]
      omega
    · rename_i hn
      rw [if_neg hn]
  have hch : Go.IntKind.wrap Go.IntKind.u8 (Go.IntKind.wrap Go.IntKind.i64 ((48 : Int) + ((u % 10 : Nat) : Int))) = 48 + ((u % 10 : Nat) : Int) := by
    rw [wr (by omega) (by omega), wr8 (by omega) (by omega)]
  have hlen : ∀ c : Int, ((List.length (c :: ([] : List Int)) + List.length out) * 1 ≤ 140737488355328) := by
    intro c
    simp
    omega
  unfold P.s_l01Dec_b0
  dsimp only
  have hu0 : u ≠ 0 → sgn neg u ≠ 0 := by
    intro h
    unfold sgn
    split <;> omega
  simp only [hA, sgn_tmod, sgn_tdiv, hw]
  have hin : ∀ X Y : Option (ByteArray × Unit), (sgn neg (u % 10) < 0 → X = g ((48 + ((u % 10 : Nat) : Int)) :: out, sgn neg (u / 10), n, ())) → (¬ sgn neg (u % 10) < 0 → Y = g ((48 + ((u % 10 : Nat) : Int)) :: out, sgn neg (u / 10), n, ())) →
      (if sgn neg (u % 10) < 0 then X else Y) = g ((48 + ((u % 10 : Nat) : Int)) :: out, sgn neg (u / 10), n, ()) := by
    intro X Y h1 h2
    split
    · exact h1 (by assumption)
    · exact h2 (by assumption)
  have key : (if sgn neg (u % 10) < 0 then (if ((decide (((List.length ((Go.IntKind.wrap Go.IntKind.u8 (Go.IntKind.wrap Go.IntKind.i64 ((48 : Int) + (Go.IntKind.wrap Go.IntKind.i64 ((0 : Int) - sgn neg (u % 10)))))) :: ([] : List Int)) + (List.length out)) * (1 : Nat)) ≤ (140737488355328 : Nat))) = true) then (g ((((Go.IntKind.wrap Go.IntKind.u8 (Go.IntKind.wrap Go.IntKind.i64 ((48 : Int) + (Go.IntKind.wrap Go.IntKind.i64 ((0 : Int) - sgn neg (u % 10)))))) :: ([] : List Int)) ++ out) , (sgn neg (u / 10) , (n , ())))) else none)
      else (if ((decide (((List.length ((Go.IntKind.wrap Go.IntKind.u8 (Go.IntKind.wrap Go.IntKind.i64 ((48 : Int) + sgn neg (u % 10)))) :: ([] : List Int)) + (List.length out)) * (1 : Nat)) ≤ (140737488355328 : Nat))) = true) then (g ((((Go.IntKind.wrap Go.IntKind.u8 (Go.IntKind.wrap Go.IntKind.i64 ((48 : Int) + sgn neg (u % 10)))) :: ([] : List Int)) ++ out) , (sgn neg (u / 10) , (n , ())))) else none)) = g ((48 + ((u % 10 : Nat) : Int)) :: out, sgn neg (u / 10), n, ()) := by
    refine hin _ _ (fun h => ?_) (fun h => ?_)
    · rw [if_pos (decide_eq_true (hlen _)), hneg h, hch]
      rfl
    · rw [if_pos (decide_eq_true (hlen _)), hpos h, hch]
      rfl
  rcases hc with rfl | hc
  · rw [if_pos (by rfl)]
    exact key
  · by_cases ho' : ((((List.length out) : Nat) : Int) == (0 : Int)) = true
    · rw [if_pos ho']
      exact key
    · rw [if_neg ho', if_pos (by simpa using hu0 hc)]
      exact key
theorem dec_end (neg : Bool) (n : Int) (out : List Int) (g : ((List Int) × (Int × (Int × Unit))) → Option (ByteArray × Unit)) (ho : out.length ≤ 1000) (hc : out ≠ []) :
    P.s_l01Dec_b0 (out, sgn neg 0, n, ()) g = some (strOf (if n < 0 then 45 :: out else out), ()) := by
  unfold P.s_l01Dec_b0
  dsimp only
  have h0 : sgn neg 0 = 0 := by cases neg <;> rfl
  rw [if_neg (by simpa using hc), h0, if_neg (by decide)]
  by_cases hn : n < 0
  · rw [if_pos (decide_eq_true hn), if_pos (decide_eq_true (by omega)), if_pos hn]
    rfl
  · rw [if_neg (by simpa using hn), if_neg hn]
theorem dec_loop (neg : Bool) (n : Int) : ∀ (u : Nat) (out : List Int) (k : Nat), u ≠ 0 → u ≤ 9223372036854775808 → (neg = false → u ≤ 9223372036854775807) → out.length + u.log2 ≤ 900 → u.log2 + 2 ≤ k →
    loopP P.s_l01Dec_b0 k (out, sgn neg u, n, ()) = some (strOf (if n < 0 then 45 :: (digI u ++ out) else digI u ++ out), ()) := by
  intro u
  induction u using Nat.strongRecOn with
  | ind u ih =>
    intro out k h0 hu hs ho hk
    obtain ⟨k, rfl⟩ : ∃ j, k = j + 1 := ⟨k - 1, by omega⟩
    rw [loopP_succ, dec_round neg u n out _ hu hs (by omega) (.inr h0)]
    by_cases h : u < 10
    · have e : u / 10 = 0 := by omega
      obtain ⟨k, rfl⟩ : ∃ j, k = j + 1 := ⟨k - 1, by omega⟩
      rw [e, loopP_succ, dec_end neg n _ _ (by simp; omega) (by simp), digI_small h, Nat.mod_eq_of_lt h]
      rfl
    · have hl : (u / 10).log2 + 1 ≤ u.log2 := by
        have h2 : u / 10 ≠ 0 := by omega
        have a1 : 2 ^ (u / 10).log2 ≤ u / 10 := Nat.log2_self_le h2
        have a2 : 2 ^ ((u / 10).log2 + 1) ≤ u := by rw [Nat.pow_succ]; omega
        exact (Nat.le_log2 h0).2 a2
      rw [ih (u / 10) (by omega) _ k (by omega) (by omega) (fun hn => by have := hs hn; omega) (by simp; omega) (by omega), digI_step h]
      simp
def S.s_l01Dec (x : (Int × Unit)) : (Option (ByteArray × Unit)) := if -9223372036854775808 ≤ x.1 ∧ x.1 ≤ 9223372036854775807 then some (⟨(Go.Lib.itoa x.1).toArray⟩, ()) else none
theorem S.s_l01Dec_ok (x : (Int × Unit)) (r : _) (h : S.s_l01Dec x = some r) : ∃ k, P.s_l01Dec k x = some r := by
  obtain ⟨n, u⟩ := x
  unfold S.s_l01Dec at h
  dsimp only at h
  split at h
  case isFalse => cases h
  rename_i hn
  cases h
  refine ⟨200, ?_⟩
  unfold P.s_l01Dec
  dsimp only
  have hsg : ∃ neg, n = sgn neg n.natAbs ∧ (neg = true ↔ n < 0) := by
    by_cases h : n < 0
    · exact ⟨true, by unfold sgn; simp; omega, by simp [h]⟩
    · exact ⟨false, by unfold sgn; simp; omega, by simp [h]⟩
  obtain ⟨neg, h1, h2⟩ := hsg
  have hfin : strOf (if n < 0 then 45 :: digI n.natAbs else digI n.natAbs) = ⟨(Go.Lib.itoa n).toArray⟩ := by
    unfold Go.Lib.itoa digI
    split
    · rw [← strOf_map]
      rfl
    · rw [← strOf_map]
      have : n.natAbs = n.toNat := by omega
      rw [this]
  by_cases h0 : n.natAbs = 0
  · have hn0 : n = 0 := by omega
    subst hn0
    have e0 : (0 : Int) = sgn false 0 := rfl
    show loopP P.s_l01Dec_b0 (198 + 1 + 1) ([], 0, 0, ()) = _
    rw [loopP_succ]
    conv => lhs; rw [show (([] : List Int), (0 : Int), (0 : Int), ()) = ([], sgn false 0, 0, ()) from rfl]
    rw [dec_round false 0 0 [] _ (by omega) (by omega) (by simp) (.inl rfl), loopP_succ, show 0 / 10 = 0 from rfl, dec_end false 0 _ _ (by simp) (by simp), ← hfin]
    rw [show (0 : Int).natAbs = 0 from rfl, digI_small (by omega)]
  · have hb : n.natAbs ≤ 9223372036854775808 := by omega
    have hl : n.natAbs.log2 ≤ 64 := by
      have : n.natAbs.log2 < 65 := (Nat.log2_lt h0).2 (by omega)
      omega
    have := dec_loop neg n n.natAbs [] 200 h0 hb (fun hf => by
      have : ¬ n < 0 := fun h => by rw [h2.2 h] at hf; cases hf
      omega) (by simp; omega) (by omega)
    rw [← h1] at this
    rw [this, List.append_nil, hfin]
abbrev P.s_l01NatText_b1  (x2 : (Int × ((List Int) × (ByteArray × Unit)))) (g3 : (Int × ((List Int) × (ByteArray × Unit))) → Option (ByteArray × Unit)) : Option (ByteArray × Unit) :=
 (if ((decide (x2.1 ≥ (0 : Int))) = true) then (if ((decide ((0 : Int) ≤ x2.1)) = true) then (if ((decide (x2.1 < (((List.length x2.2.1) : Nat) : Int))) = true) then (Option.bind (S.s_l01Dec ((Go.IntKind.wrap Go.IntKind.i64 ((List.getD x2.2.1 (Int.toNat x2.1) (0 : Int)) + (1000000000 : Int))) , ())) (fun (y4 : (ByteArray × Unit)) => (if ((decide ((0 : Int) ≤ (((ByteArray.size y4.1) : Nat) : Int))) = true) then (if ((decide ((((ByteArray.size y4.1) : Nat) : Int) ≤ (((ByteArray.size y4.1) : Nat) : Int))) = true) then (if ((decide ((1 : Int) ≤ (((ByteArray.size y4.1) : Nat) : Int))) = true) then (if ((decide (((ByteArray.size x2.2.2.1) + (ByteArray.size (ByteArray.extract y4.1 (1 : Nat) (Int.toNat (((ByteArray.size y4.1) : Nat) : Int))))) ≤ (9223372036854775807 : Nat))) = true) then (g3 ((Go.IntKind.wrap Go.IntKind.i64 (x2.1 - (1 : Int))) , (x2.2.1 , ((x2.2.2.1 ++ (ByteArray.extract y4.1 (1 : Nat) (Int.toNat (((ByteArray.size y4.1) : Nat) : Int)))) , ()))))
 else none)
 else none)
 else none)
 else none)))
 else none)
 else none)
 else (some (x2.2.2.1 , ())))
def P.s_l01NatText (k : Nat) (x : ((List Int) × Unit)) : (Option (ByteArray × Unit)) :=
 (if (((((List.length x.1) : Nat) : Int) == (0 : Int)) = true) then (some ((bs [48]) , ()))
 else (if ((decide ((0 : Int) ≤ (Go.IntKind.wrap Go.IntKind.i64 ((((List.length x.1) : Nat) : Int) - (1 : Int))))) = true) then (if ((decide ((Go.IntKind.wrap Go.IntKind.i64 ((((List.length x.1) : Nat) : Int) - (1 : Int))) < (((List.length x.1) : Nat) : Int))) = true) then (Option.bind (S.s_l01Dec ((List.getD x.1 (Int.toNat (Go.IntKind.wrap Go.IntKind.i64 ((((List.length x.1) : Nat) : Int) - (1 : Int)))) (0 : Int)) , ())) (fun (y0 : (ByteArray × Unit)) => (loopP (X := (Int × ((List Int) × (ByteArray × Unit)))) (R := (ByteArray × Unit)) (P.s_l01NatText_b1 ) k ((Go.IntKind.wrap Go.IntKind.i64 ((((List.length x.1) : Nat) : Int) - (2 : Int))) , (x.1 , (y0.1 , ()))))))
 else none)
 else none))
def S.s_l01NatText (x : ((List Int) × Unit)) : (Option (ByteArray × Unit)) := if canon B10 x.1 = true ∧ x.1.length ≤ 100000 then some (⟨(Go.Lib.decDigits (dval B10 x.1)).toArray⟩, ()) else none
theorem S.s_l01NatText_ok (x : ((List Int) × Unit)) (r : _) (h : S.s_l01NatText x = some r) : ∃ k, P.s_l01NatText k x = some r := by
  obtain ⟨xs, u⟩ := x
  unfold S.s_l01NatText at h
  dsimp only at h
  split at h
  case isFalse => cases h
  rename_i hc
  obtain ⟨ca, la⟩ := hc
  cases h
  refine ⟨xs.length + 1, ?_⟩
  unfold P.s_l01NatText
  dsimp only
  by_cases he : xs = []
  · subst he
    rw [if_pos (by rfl), show dval B10 [] = 0 from rfl, dec_small (by decide)]
    rfl
  · have hpos : 0 < xs.length := List.length_pos_iff.2 he
    obtain ⟨m, hm⟩ : ∃ m, xs.length = m + 1 := ⟨xs.length - 1, by omega⟩
    have dx := canon_dig ca
    have h0 : dval B10 xs ≠ 0 := by
      intro q
      have := canon_eq ca
      rw [q, nd_zero B10_le] at this
      exact he this.symm
    have hdec : ∀ z : Int, 0 ≤ z → z ≤ 2000000000 → S.s_l01Dec (z, ()) = some (⟨(Go.Lib.decDigits z.toNat).toArray⟩, ()) := by
      intro z z0 z1
      unfold S.s_l01Dec
      dsimp only
      rw [if_pos ⟨by omega, by omega⟩]
      unfold Go.Lib.itoa
      rw [if_neg (by omega)]
    -- the part of the number from a place on is not 0
    have hnz : ∀ i, i ≤ m → dval B10 (xs.drop i) ≠ 0 := by
      intro i hi q
      have h1 := dval_append (B := B10) (xs.take i) (xs.drop i)
      rw [List.take_append_drop, q, Nat.mul_zero, Nat.add_zero] at h1
      have h2 := dval_lt (dig_take dx i)
      have h3 : (xs.take i).length = i := by simp; omega
      rw [h3] at h2
      have h4 := nd_low B10_le h0
      rw [canon_eq ca, hm, Nat.add_sub_cancel] at h4
      have h5 : B10 ^ i ≤ B10 ^ m := Nat.pow_le_pow_right (by decide) hi
      omega
    have hlenD : ∀ i, (Go.Lib.decDigits (dval B10 (xs.drop i))).length ≤ 9 * xs.length := by
      intro i
      have h1 := dval_lt (dig_drop dx i)
      have h2 : B10 ^ (xs.drop i).length ≤ B10 ^ xs.length := Nat.pow_le_pow_right (by decide) (by simp)
      rw [show B10 = 10 ^ 9 by decide, ← Nat.pow_mul, ← Nat.pow_mul] at h2
      rw [show B10 ^ (xs.drop i).length = 10 ^ (9 * (xs.drop i).length) by rw [show B10 = 10 ^ 9 by decide, ← Nat.pow_mul]] at h1
      exact dec_len (by omega) (by omega)
    have c1 : (0 : Int) ≤ (m : Int) := by omega
    have c2 : (m : Int) < ((m + 1 : Nat) : Int) := by omega
    rw [if_neg (by simp; exact he), hm, wr (x := ((m + 1 : Nat) : Int) - 1) (by omega) (by omega), wr (x := ((m + 1 : Nat) : Int) - 2) (by omega) (by omega), show ((m + 1 : Nat) : Int) - 1 = (m : Int) by omega, if_pos (decide_eq_true c1), if_pos (decide_eq_true c2), Int.toNat_natCast]
    have gx := dig_getD (B := B10) (by decide) dx m
    have gx1 : xs.getD m 0 < 1000000000 := gx.2
    rw [hdec _ gx.1 (by omega), Option.bind_some]
    have hlast : (xs.getD m 0).toNat = dval B10 (xs.drop m) := by
      rw [dval_drop (by omega), List.drop_of_length_le (by omega)]
      simp [dval]
    rw [hlast]
    have key := loop_up0 (k := m + 1 + 1) (b := P.s_l01NatText_b1) (n := m) (st := fun i => ((m : Int) - 1 - (i : Int), xs, (⟨(Go.Lib.decDigits (dval B10 (xs.drop (m - i)))).toArray⟩ : ByteArray), ())) (F := fun i => some (⟨(Go.Lib.decDigits (dval B10 xs)).toArray⟩, ())) (fun i g hi hg => by
      unfold P.s_l01NatText_b1
      dsimp only at hg ⊢
      obtain ⟨j, hj⟩ : ∃ j, m - i = j + 1 := ⟨m - i - 1, by omega⟩
      rw [show m - (i + 1) = j by omega, show (m : Int) - 1 - ((i + 1 : Nat) : Int) = (j : Int) - 1 by omega] at hg
      rw [hj, show (m : Int) - 1 - (i : Int) = (j : Int) by omega]
      have d1 : (j : Int) ≥ 0 := by omega
      have d2 : (0 : Int) ≤ (j : Int) := by omega
      have d3 : (j : Int) < (xs.length : Int) := by omega
      have gx := dig_getD (B := B10) (by decide) dx j
      have gx1 : xs.getD j 0 < 1000000000 := gx.2
      have gx0 := gx.1
      rw [if_pos (decide_eq_true d1), if_pos (decide_eq_true d2), if_pos (decide_eq_true d3), Int.toNat_natCast, wr (x := xs.getD j 0 + 1000000000) (by omega) (by omega), hdec _ (by omega) (by omega), Option.bind_some]
      dsimp only
      obtain ⟨z, hz⟩ : ∃ z : Nat, xs.getD j 0 = (z : Int) := ⟨(xs.getD j 0).toNat, by omega⟩
      have hzl : z < 10 ^ 9 := by rw [show (10 : Nat) ^ 9 = 1000000000 by decide]; omega
      have e1 := nine_all z (xs.getD j 0) hz hzl
      rw [e1]
      have hs : (⟨(49 :: decPad 9 z).toArray⟩ : ByteArray).size = 10 := by rw [ba_sz, List.length_cons, decPad_len]
      have hx : ByteArray.extract ⟨(49 :: decPad 9 z).toArray⟩ 1 10 = ⟨(decPad 9 z).toArray⟩ := by
        apply ByteArray.ext
        rw [ByteArray.data_extract]
        have hl : (decPad 9 z).length = 9 := decPad_len _ _
        simp [List.extract_toArray, List.take_of_length_le, hl]
      rw [hs]
      have f1 : (0 : Int) ≤ ((10 : Nat) : Int) := by decide
      have f2 : (1 : Int) ≤ ((10 : Nat) : Int) := by decide
      rw [if_pos (decide_eq_true f1), if_pos (decide_eq_true (Int.le_refl _)), if_pos (decide_eq_true f2), show (((10 : Nat) : Int)).toNat = 10 from rfl, hx]
      have hl1 := hlenD (j + 1)
      have f3 : (⟨(Go.Lib.decDigits (dval B10 (xs.drop (j + 1)))).toArray⟩ : ByteArray).size + (⟨(decPad 9 z).toArray⟩ : ByteArray).size ≤ 9223372036854775807 := by
        rw [ba_sz, ba_sz, decPad_len]
        omega
      rw [if_pos (decide_eq_true f3), ba_app, wr (x := (j : Int) - 1) (by omega) (by omega)]
      have e2 : Go.Lib.decDigits (dval B10 (xs.drop (j + 1))) ++ decPad 9 z = Go.Lib.decDigits (dval B10 (xs.drop j)) := by
        rw [dval_drop (xs := xs) (i := j) (by omega), hz, Int.toNat_natCast]
        generalize hD : dval B10 (xs.drop (j + 1)) = D
        have hD0 : 0 < D := by rw [← hD]; exact Nat.pos_of_ne_zero (hnz (j + 1) (by omega))
        have e3 : z + B10 * D = D * 10 ^ 9 + z := by rw [Nat.add_comm, Nat.mul_comm]
        rw [e3, dec_split 9 D z hD0 hzl]
      rw [e2]
      exact hg) (fun g => by
      unfold P.s_l01NatText_b1
      dsimp only
      rw [if_neg (by simp; omega), Nat.sub_self, List.drop_zero]) (by omega)
    rw [Nat.sub_zero, show (m : Int) - 1 - ((0 : Nat) : Int) = ((m + 1 : Nat) : Int) - 2 by omega] at key
    exact key
def P.s_l01Fits (k : Nat) (x : ((Bool × ((List Int) × (List Int))) × Unit)) : (Option (Bool × Unit)) :=
 (Option.bind (S.s_l01NatText (x.1.2.1 , ())) (fun (y0 : (ByteArray × Unit)) => (if ((decide ((((ByteArray.size y0.1) : Nat) : Int) ≤ (200 : Int))) = true) then (Option.bind (S.s_l01NatText (x.1.2.2 , ())) (fun (y1 : (ByteArray × Unit)) => (some ((decide ((((ByteArray.size y1.1) : Nat) : Int) ≤ (200 : Int))) , ()))))
 else (some (false , ())))))
def S.s_l01Fits (x : ((Bool × ((List Int) × (List Int))) × Unit)) : (Option (Bool × Unit)) := P.s_l01Fits 0 x
theorem S.s_l01Fits_ok (x : ((Bool × ((List Int) × (List Int))) × Unit)) (r : _) (h : S.s_l01Fits x = some r) : ∃ k, P.s_l01Fits k x = some r := ⟨0, h⟩
abbrev P.s_l01Cmp_b0  (x1 : (Int × ((List Int) × ((List Int) × Unit)))) (g2 : (Int × ((List Int) × ((List Int) × Unit))) → Option (Int × Unit)) : Option (Int × Unit) :=
 (if ((decide (x1.1 ≥ (0 : Int))) = true) then (if ((decide ((0 : Int) ≤ x1.1)) = true) then (if ((decide (x1.1 < (((List.length x1.2.1) : Nat) : Int))) = true) then (if ((decide ((0 : Int) ≤ x1.1)) = true) then (if ((decide (x1.1 < (((List.length x1.2.2.1) : Nat) : Int))) = true) then (if (((List.getD x1.2.1 (Int.toNat x1.1) (0 : Int)) != (List.getD x1.2.2.1 (Int.toNat x1.1) (0 : Int))) = true) then (if ((decide ((0 : Int) ≤ x1.1)) = true) then (if ((decide (x1.1 < (((List.length x1.2.1) : Nat) : Int))) = true) then (if ((decide ((0 : Int) ≤ x1.1)) = true) then (if ((decide (x1.1 < (((List.length x1.2.2.1) : Nat) : Int))) = true) then (if ((decide ((List.getD x1.2.1 (Int.toNat x1.1) (0 : Int)) < (List.getD x1.2.2.1 (Int.toNat x1.1) (0 : Int)))) = true) then (some ((-1 : Int) , ()))
 else (some ((1 : Int) , ())))
 else none)
 else none)
 else none)
 else none)
 else (g2 ((Go.IntKind.wrap Go.IntKind.i64 (x1.1 - (1 : Int))) , (x1.2.1 , (x1.2.2.1 , ())))))
 else none)
 else none)
 else none)
 else none)
 else (some ((0 : Int) , ())))
def P.s_l01Cmp (k : Nat) (x : ((List Int) × ((List Int) × Unit))) : (Option (Int × Unit)) :=
 (if (((((List.length x.1) : Nat) : Int) != (((List.length x.2.1) : Nat) : Int)) = true) then (if ((decide ((((List.length x.1) : Nat) : Int) < (((List.length x.2.1) : Nat) : Int))) = true) then (some ((-1 : Int) , ()))
 else (some ((1 : Int) , ())))
 else (loopP (X := (Int × ((List Int) × ((List Int) × Unit)))) (R := (Int × Unit)) (P.s_l01Cmp_b0 ) k ((Go.IntKind.wrap Go.IntKind.i64 ((((List.length x.1) : Nat) : Int) - (1 : Int))) , (x.1 , (x.2.1 , ())))))
def S.s_l01Cmp (x : ((List Int) × ((List Int) × Unit))) : (Option (Int × Unit)) := if canon B10 x.1 = true ∧ canon B10 x.2.1 = true ∧ x.1.length ≤ 1000000000000 then some (cmpN (dval B10 x.1) (dval B10 x.2.1), ()) else none
theorem S.s_l01Cmp_ok (x : ((List Int) × ((List Int) × Unit))) (r : _) (h : S.s_l01Cmp x = some r) : ∃ k, P.s_l01Cmp k x = some r := by
  obtain ⟨xs, ys, u⟩ := x
  unfold S.s_l01Cmp at h
  dsimp only at h
  split at h
  case isFalse => cases h
  rename_i hc
  obtain ⟨cx, cy, hl⟩ := hc
  cases h
  refine ⟨xs.length + 1, ?_⟩
  unfold P.s_l01Cmp
  dsimp only
  by_cases hn : xs.length = ys.length
  · rw [if_neg (by simp [hn]), wr (by omega) (by omega)]
    have key := loop_up0 (k := xs.length + 1) (b := P.s_l01Cmp_b0) (n := xs.length) (st := fun j => ((xs.length : Int) - 1 - (j : Int), xs, ys, ())) (F := fun j => some (cmpN (dval B10 (xs.take (xs.length - j))) (dval B10 (ys.take (xs.length - j))), ())) (fun j g hj hg => by
      unfold P.s_l01Cmp_b0
      dsimp only at hg ⊢
      have e1 : (xs.length : Int) - 1 - (j : Int) ≥ 0 := by omega
      have e3 : (0 : Int) ≤ (xs.length : Int) - 1 - (j : Int) := by omega
      have e4 : (xs.length : Int) - 1 - (j : Int) < (xs.length : Int) := by omega
      have e4' : (xs.length : Int) - 1 - (j : Int) < (ys.length : Int) := by omega
      simp only [e1, e4, e4', decide_true, if_true]
      have hi : xs.length - (j + 1) < xs.length := by omega
      have hi' : xs.length - (j + 1) < ys.length := by omega
      have e5 : (xs.length : Int) - 1 - (j : Int) = ((xs.length - (j + 1) : Nat) : Int) := by omega
      have e6 : xs.length - j = (xs.length - (j + 1)) + 1 := by omega
      rw [e5, getD_cast xs _ _ hi, getD_cast ys _ _ hi', e6]
      generalize xs.length - (j + 1) = i at *
      by_cases hq : xs[i] = ys[i]
      · rw [if_neg (by simp [hq]), wr (by omega) (by omega)]
        have e7 : ((i : Nat) : Int) - 1 = (xs.length : Int) - 1 - ((j + 1 : Nat) : Int) := by omega
        rw [e7, hg, ← List.take_append_getElem hi, ← List.take_append_getElem hi', dval_append, dval_append, hq]
        have hlx : (xs.take i).length = i := by simp; omega
        have hly : (ys.take i).length = i := by simp; omega
        rw [hlx, hly]
        unfold cmpN
        simp only [Nat.add_lt_add_iff_right]
      · rw [if_pos (by simp [hq])]
        by_cases hlt : xs[i] < ys[i]
        · have := dval_top xs ys i hi hi' (canon_dig cx) (canon_dig cy) hlt
          rw [if_pos (decide_eq_true hlt), cmpN, if_pos this]
        · have := dval_top ys xs i hi' hi (canon_dig cy) (canon_dig cx) (by omega)
          rw [if_neg (by simpa using hlt), cmpN, if_neg (by omega), if_pos this]) (fun g => by
      unfold P.s_l01Cmp_b0
      dsimp only
      rw [if_neg (by simp; omega), Nat.sub_self, List.take_zero, List.take_zero]
      rfl) (by omega)
    rw [show (xs.length : Int) - 1 - ((0 : Nat) : Int) = (xs.length : Int) - 1 by omega, Nat.sub_zero, List.take_length, List.take_of_length_le (by omega)] at key
    exact key
  · rw [if_pos (by simp; omega)]
    by_cases hlt : xs.length < ys.length
    · rw [if_pos (decide_eq_true (by omega)), cmpN, if_pos (canon_small B10_le cx cy hlt)]
    · have := canon_small B10_le cy cx (by omega)
      rw [if_neg (by simp; omega), cmpN, if_neg (by omega), if_pos this]
def P.s_l01Show (k : Nat) (x : ((Bool × ((List Int) × (List Int))) × Unit)) : (Option (ByteArray × Unit)) :=
 (Option.bind (S.s_l01NatText (x.1.2.1 , ())) (fun (y0 : (ByteArray × Unit)) => (if (x.1.1 = true) then (if ((decide (((1 : Nat) + (ByteArray.size y0.1)) ≤ (9223372036854775807 : Nat))) = true) then (Option.bind (S.s_l01Cmp (x.1.2.2 , (((1 : Int) :: ([] : List Int)) , ()))) (fun (y1 : (Int × Unit)) => (if ((y1.1 != (0 : Int)) = true) then (Option.bind (S.s_l01NatText (x.1.2.2 , ())) (fun (y2 : (ByteArray × Unit)) => (if ((decide (((1 : Nat) + (ByteArray.size y2.1)) ≤ (9223372036854775807 : Nat))) = true) then (if ((decide (((ByteArray.size ((bs [45]) ++ y0.1)) + (ByteArray.size ((bs [47]) ++ y2.1))) ≤ (9223372036854775807 : Nat))) = true) then (some ((((bs [45]) ++ y0.1) ++ ((bs [47]) ++ y2.1)) , ()))
 else none)
 else none)))
 else (some (((bs [45]) ++ y0.1) , ())))))
 else none)
 else (Option.bind (S.s_l01Cmp (x.1.2.2 , (((1 : Int) :: ([] : List Int)) , ()))) (fun (y3 : (Int × Unit)) => (if ((y3.1 != (0 : Int)) = true) then (Option.bind (S.s_l01NatText (x.1.2.2 , ())) (fun (y4 : (ByteArray × Unit)) => (if ((decide (((1 : Nat) + (ByteArray.size y4.1)) ≤ (9223372036854775807 : Nat))) = true) then (if ((decide (((ByteArray.size y0.1) + (ByteArray.size ((bs [47]) ++ y4.1))) ≤ (9223372036854775807 : Nat))) = true) then (some ((y0.1 ++ ((bs [47]) ++ y4.1)) , ()))
 else none)
 else none)))
 else (some (y0.1 , ()))))))))
def S.s_l01Show (x : ((Bool × ((List Int) × (List Int))) × Unit)) : (Option (ByteArray × Unit)) := P.s_l01Show 0 x
theorem S.s_l01Show_ok (x : ((Bool × ((List Int) × (List Int))) × Unit)) (r : _) (h : S.s_l01Show x = some r) : ∃ k, P.s_l01Show k x = some r := ⟨0, h⟩
def P.s_l01Give (k : Nat) (x : ((Bool × ((List Int) × (List Int))) × Unit)) : (Option ((ByteArray × Bool) × Unit)) :=
 (Option.bind (S.s_l01Fits ((x.1.1 , (x.1.2.1 , x.1.2.2)) , ())) (fun (y0 : (Bool × Unit)) => (if ((!y0.1) = true) then (some (((bs []) , false) , ()))
 else (Option.bind (S.s_l01Show ((x.1.1 , (x.1.2.1 , x.1.2.2)) , ())) (fun (y1 : (ByteArray × Unit)) => (some ((y1.1 , true) , ())))))))
def S.s_l01Give (x : ((Bool × ((List Int) × (List Int))) × Unit)) : (Option ((ByteArray × Bool) × Unit)) := if rok B10 100000 x.1 = true then some (giveN (rv B10 x.1), ()) else none
theorem S.s_l01Give_ok (x : ((Bool × ((List Int) × (List Int))) × Unit)) (r : _) (h : S.s_l01Give x = some r) : ∃ k, P.s_l01Give k x = some r := by
  obtain ⟨⟨neg, as, bs'⟩, u⟩ := x
  unfold S.s_l01Give at h
  dsimp only at h
  split at h
  case isFalse => cases h
  rename_i hc
  cases h
  rw [rok_iff] at hc
  obtain ⟨ca, cb, la, lb⟩ := hc
  dsimp only at ca cb la lb
  refine ⟨0, ?_⟩
  unfold P.s_l01Give S.s_l01Fits S.s_l01Show P.s_l01Fits P.s_l01Show
  dsimp only
  have e1 : ∀ xs, canon B10 xs = true → xs.length ≤ 100000 → S.s_l01NatText (xs, ()) = some (⟨(Go.Lib.decDigits (dval B10 xs)).toArray⟩, ()) := by
    intro xs cx lx
    unfold S.s_l01NatText
    exact if_pos ⟨cx, lx⟩
  have e3 : S.s_l01Cmp (bs', ([1], ())) = some (cmpN (dval B10 bs') 1, ()) := by
    unfold S.s_l01Cmp
    dsimp only
    rw [if_pos ⟨cb, canon_one B10_le, by omega⟩, dval_one]
  rw [e1 as ca la, Option.bind_some, e1 bs' cb lb, Option.bind_some, e3, Option.bind_some]
  dsimp only
  have l1 := canon_dec (show B10 ≤ 10 ^ 10 by decide) ca
  have l2 := canon_dec (show B10 ≤ 10 ^ 10 by decide) cb
  unfold giveN rv ratTx fitN
  dsimp only
  generalize Go.Lib.decDigits (dval B10 as) = t1 at *
  generalize Go.Lib.decDigits (dval B10 bs') = t2 at *
  rw [show bs [45] = ⟨([45] : List UInt8).toArray⟩ from rfl, show bs [47] = ⟨([47] : List UInt8).toArray⟩ from rfl]
  simp only [Option.bind_some]
  rw [ba_app, ba_app, ba_app, ba_app, ba_sz, ba_sz, ba_sz, ba_sz]
  have c1 : (1 + t1.length ≤ 9223372036854775807) := by omega
  have c2 : (1 + t2.length ≤ 9223372036854775807) := by omega
  have c3 : ([45] ++ t1).length + ([47] ++ t2).length ≤ 9223372036854775807 := by simp; omega
  have c4 : t1.length + ([47] ++ t2).length ≤ 9223372036854775807 := by simp; omega
  simp only [c1, c2, c3, c4, decide_true, if_true]
  have d1 : ∀ t : List UInt8, decide (((t.length : Nat) : Int) ≤ 200) = decide (t.length ≤ 200) := by
    intro t
    rw [decide_eq_decide]
    omega
  rw [d1, d1]
  have d2 : ((cmpN (dval B10 bs') 1 != 0) = true) ↔ ¬ dval B10 bs' = 1 := by
    rw [← cmpN_zero (b := 1)]
    simp
  by_cases f1 : t1.length ≤ 200
  · by_cases f2 : t2.length ≤ 200
    · by_cases hq : dval B10 bs' = 1
      · have n2 : ¬ ((cmpN 1 1 != 0) = true) := by decide
        cases neg <;> simp only [f1, f2, n2, hq, decide_true, if_true, if_false, Bool.false_eq_true, List.append_nil, List.nil_append, Option.bind_some, Bool.not_true, Bool.and_true]
      · have n2 : ((cmpN (dval B10 bs') 1 != 0) = true) := d2.2 hq
        cases neg <;> simp only [f1, f2, n2, hq, decide_true, if_true, if_false, Bool.false_eq_true, List.nil_append, Option.bind_some, Bool.not_true, Bool.and_true] <;> simp
    · simp [f1, f2]
  · simp [f1]
def P.s_l01Opposite (k : Nat) (x : ((Bool × ((List Int) × (List Int))) × Unit)) : (Option ((Bool × ((List Int) × (List Int))) × Unit)) :=
 (if ((!x.1.1) = true) then (some (((decide ((((List.length x.1.2.1) : Nat) : Int) > (0 : Int))) , (x.1.2.1 , x.1.2.2)) , ()))
 else (some ((false , (x.1.2.1 , x.1.2.2)) , ())))
def S.s_l01Opposite (x : ((Bool × ((List Int) × (List Int))) × Unit)) : (Option ((Bool × ((List Int) × (List Int))) × Unit)) := if rok B10 100000 x.1 = true then some (rp B10 (oppQ (rv B10 x.1)), ()) else none
theorem S.s_l01Opposite_ok (x : ((Bool × ((List Int) × (List Int))) × Unit)) (r : _) (h : S.s_l01Opposite x = some r) : ∃ k, P.s_l01Opposite k x = some r := by
  obtain ⟨x, u⟩ := x
  unfold S.s_l01Opposite at h
  dsimp only at h
  split at h
  case isFalse => cases h
  rename_i hc
  cases h
  refine ⟨0, ?_⟩
  obtain ⟨n, p, q, rfl, _, _⟩ := rok_nd hc
  rw [rv_nd B10_le]
  unfold P.s_l01Opposite oppQ rp
  dsimp only
  rw [nd_len_pos B10_le]
  cases n
  · rfl
  · rfl
abbrev P.s_l01Trim_b0  (x1 : ((List Int) × Unit)) (g2 : ((List Int) × Unit) → Option ((List Int) × Unit)) : Option ((List Int) × Unit) :=
 (if ((decide ((((List.length x1.1) : Nat) : Int) > (0 : Int))) = true) then (if ((decide ((0 : Int) ≤ (Go.IntKind.wrap Go.IntKind.i64 ((((List.length x1.1) : Nat) : Int) - (1 : Int))))) = true) then (if ((decide ((Go.IntKind.wrap Go.IntKind.i64 ((((List.length x1.1) : Nat) : Int) - (1 : Int))) < (((List.length x1.1) : Nat) : Int))) = true) then (if (((List.getD x1.1 (Int.toNat (Go.IntKind.wrap Go.IntKind.i64 ((((List.length x1.1) : Nat) : Int) - (1 : Int)))) (0 : Int)) == (0 : Int)) = true) then (if ((decide ((0 : Int) ≤ (Go.IntKind.wrap Go.IntKind.i64 ((((List.length x1.1) : Nat) : Int) - (1 : Int))))) = true) then (if ((decide ((Go.IntKind.wrap Go.IntKind.i64 ((((List.length x1.1) : Nat) : Int) - (1 : Int))) ≤ (((List.length x1.1) : Nat) : Int))) = true) then (if ((decide ((0 : Int) ≤ (Go.IntKind.wrap Go.IntKind.i64 ((((List.length x1.1) : Nat) : Int) - (1 : Int))))) = true) then (g2 ((seen x1.1 (0 : Nat) ((Int.toNat (Go.IntKind.wrap Go.IntKind.i64 ((((List.length x1.1) : Nat) : Int) - (1 : Int)))) - (0 : Nat))) , ()))
 else none)
 else none)
 else none)
 else (some (x1.1 , ())))
 else none)
 else none)
 else (some (x1.1 , ())))
def P.s_l01Trim (k : Nat) (x : ((List Int) × Unit)) : (Option ((List Int) × Unit)) :=
 (loopP (X := ((List Int) × Unit)) (R := ((List Int) × Unit)) (P.s_l01Trim_b0 ) k (x.1 , ()))
theorem trim_loopS (n : Nat) : ∀ (xs : List Int) (k : Nat), xs.length = n → n < k → n ≤ 1000000000000 → dig B10 xs = true → loopP (X := ((List Int) × Unit)) (R := ((List Int) × Unit)) P.s_l01Trim_b0 k (xs, ()) = some (nd B10 (dval B10 xs), ()) := by
  induction n with
  | zero =>
    intro xs k hx hk _ _
    have : xs = [] := List.eq_nil_of_length_eq_zero hx
    subst this
    obtain ⟨k, rfl⟩ : ∃ j, k = j + 1 := ⟨k - 1, by omega⟩
    rw [loopP_succ]
    unfold P.s_l01Trim_b0
    rw [if_neg (by simp)]
    rw [show dval B10 [] = 0 from rfl, nd_zero B10_le]
  | succ n ih =>
    intro xs k hx hk hn hd
    obtain ⟨k, rfl⟩ : ∃ j, k = j + 1 := ⟨k - 1, by omega⟩
    rw [loopP_succ]
    unfold P.s_l01Trim_b0
    dsimp only
    have e0 : Go.IntKind.wrap Go.IntKind.i64 ((xs.length : Int) - 1) = (n : Int) := by rw [wr (by omega) (by omega)]; omega
    have e1 : (xs.length : Int) > 0 := by omega
    have e2 : (0 : Int) ≤ (n : Int) := by omega
    have e3 : (n : Int) < (xs.length : Int) := by omega
    have e4 : (n : Int) ≤ (xs.length : Int) := by omega
    rw [e0]
    simp only [e1, e2, e3, e4, decide_true, if_true]
    rw [getD_cast xs n _ (by omega)]
    have hs := take_snoc xs n hx
    have hdt : dig B10 (xs.take n ++ [xs[n]]) = true := by rw [← hs]; exact hd
    by_cases hz : xs[n] = 0
    · rw [if_pos (by simp [hz])]
      have e5 : seen xs 0 ((n : Int).toNat - 0) = xs.take n := by simp [seen]
      rw [e5]
      have hdt' := hdt
      rw [dig_append, Bool.and_eq_true] at hdt'
      rw [ih (xs.take n) k (by simp; omega) (by omega) (by omega) hdt'.1]
      have : dval B10 xs = dval B10 (xs.take n) := by
        conv => lhs; rw [hs, hz]
        exact dval_snoc_zero _
      rw [this]
    · rw [if_neg (by simp [hz])]
      have := nd_snoc B10_le (xs.take n) xs[n] hdt hz
      rw [← hs] at this
      rw [this]
def S.s_l01Trim (x : ((List Int) × Unit)) : (Option ((List Int) × Unit)) := if dig B10 x.1 = true ∧ x.1.length ≤ 1000000000000 then some (nd B10 (dval B10 x.1), ()) else none
theorem S.s_l01Trim_ok (x : ((List Int) × Unit)) (r : _) (h : S.s_l01Trim x = some r) : ∃ k, P.s_l01Trim k x = some r := by
  obtain ⟨xs, u⟩ := x
  unfold S.s_l01Trim at h
  dsimp only at h
  split at h
  case isFalse => cases h
  rename_i hc
  cases h
  exact ⟨xs.length + 1, trim_loopS xs.length xs _ rfl (by omega) hc.2 hc.1⟩
theorem trim_s (xs : List Int) (h : dig B10 xs = true) (hl : xs.length ≤ 1000000000000) : S.s_l01Trim (xs, ()) = some (nd B10 (dval B10 xs), ()) := by
  unfold S.s_l01Trim
  dsimp only
  rw [if_pos ⟨h, hl⟩]
abbrev P.s_l01NatMul_b3 (g2 : ((Int × (Int × ((List Int) × ((List Int) × ((List Int) × Unit))))) → (Option ((List Int) × Unit)))) (x4 : (Int × (Int × ((List Int) × (Int × ((List Int) × ((List Int) × (Int × (Int × (Int × Unit)))))))))) (g5 : (Int × (Int × ((List Int) × (Int × ((List Int) × ((List Int) × (Int × (Int × (Int × Unit))))))))) → Option ((List Int) × Unit)) : Option ((List Int) × Unit) :=
 (if ((decide (x4.1 < x4.2.1)) = true) then (if ((decide ((0 : Int) ≤ (Go.IntKind.wrap Go.IntKind.i64 (x4.2.2.2.1 + x4.1)))) = true) then (if ((decide ((Go.IntKind.wrap Go.IntKind.i64 (x4.2.2.2.1 + x4.1)) < (((List.length x4.2.2.1) : Nat) : Int))) = true) then (if ((decide ((0 : Int) ≤ x4.2.2.2.1)) = true) then (if ((decide (x4.2.2.2.1 < (((List.length x4.2.2.2.2.1) : Nat) : Int))) = true) then (if ((decide ((0 : Int) ≤ x4.1)) = true) then (if ((decide (x4.1 < (((List.length x4.2.2.2.2.2.1) : Nat) : Int))) = true) then (if ((decide ((0 : Int) ≤ (Go.IntKind.wrap Go.IntKind.i64 (x4.2.2.2.1 + x4.1)))) = true) then (if ((decide ((Go.IntKind.wrap Go.IntKind.i64 (x4.2.2.2.1 + x4.1)) < (((List.length x4.2.2.1) : Nat) : Int))) = true) then (g5 ((Go.IntKind.wrap Go.IntKind.i64 (x4.1 + (1 : Int))) , (x4.2.1 , ((List.set x4.2.2.1 ((0 : Nat) + (Int.toNat (Go.IntKind.wrap Go.IntKind.i64 (x4.2.2.2.1 + x4.1)))) (Int.tmod (Go.IntKind.wrap Go.IntKind.i64 ((Go.IntKind.wrap Go.IntKind.i64 ((List.getD x4.2.2.1 ((0 : Nat) + (Int.toNat (Go.IntKind.wrap Go.IntKind.i64 (x4.2.2.2.1 + x4.1)))) (0 : Int)) + (Go.IntKind.wrap Go.IntKind.i64 ((List.getD x4.2.2.2.2.1 (Int.toNat x4.2.2.2.1) (0 : Int)) * (List.getD x4.2.2.2.2.2.1 (Int.toNat x4.1) (0 : Int)))))) + x4.2.2.2.2.2.2.1)) (1000000000 : Int))) , (x4.2.2.2.1 , (x4.2.2.2.2.1 , (x4.2.2.2.2.2.1 , ((Go.IntKind.wrap Go.IntKind.i64 (Int.tdiv (Go.IntKind.wrap Go.IntKind.i64 ((Go.IntKind.wrap Go.IntKind.i64 ((List.getD x4.2.2.1 ((0 : Nat) + (Int.toNat (Go.IntKind.wrap Go.IntKind.i64 (x4.2.2.2.1 + x4.1)))) (0 : Int)) + (Go.IntKind.wrap Go.IntKind.i64 ((List.getD x4.2.2.2.2.1 (Int.toNat x4.2.2.2.1) (0 : Int)) * (List.getD x4.2.2.2.2.2.1 (Int.toNat x4.1) (0 : Int)))))) + x4.2.2.2.2.2.2.1)) (1000000000 : Int))) , (x4.2.2.2.2.2.2.2.1 , (x4.2.2.2.2.2.2.2.2.1 , ()))))))))))
 else none)
 else none)
 else none)
 else none)
 else none)
 else none)
 else none)
 else none)
 else (if ((decide ((0 : Int) ≤ (Go.IntKind.wrap Go.IntKind.i64 (x4.2.2.2.1 + (((List.length x4.2.2.2.2.2.1) : Nat) : Int))))) = true) then (if ((decide ((Go.IntKind.wrap Go.IntKind.i64 (x4.2.2.2.1 + (((List.length x4.2.2.2.2.2.1) : Nat) : Int))) < (((List.length x4.2.2.1) : Nat) : Int))) = true) then (if ((decide ((0 : Int) ≤ (Go.IntKind.wrap Go.IntKind.i64 (x4.2.2.2.1 + (((List.length x4.2.2.2.2.2.1) : Nat) : Int))))) = true) then (if ((decide ((Go.IntKind.wrap Go.IntKind.i64 (x4.2.2.2.1 + (((List.length x4.2.2.2.2.2.1) : Nat) : Int))) < (((List.length x4.2.2.1) : Nat) : Int))) = true) then (g2 ((Go.IntKind.wrap Go.IntKind.i64 (x4.2.2.2.2.2.2.2.1 + (1 : Int))) , (x4.2.2.2.2.2.2.2.2.1 , (x4.2.2.2.2.2.1 , ((List.set x4.2.2.1 ((0 : Nat) + (Int.toNat (Go.IntKind.wrap Go.IntKind.i64 (x4.2.2.2.1 + (((List.length x4.2.2.2.2.2.1) : Nat) : Int))))) (Go.IntKind.wrap Go.IntKind.i64 ((List.getD x4.2.2.1 ((0 : Nat) + (Int.toNat (Go.IntKind.wrap Go.IntKind.i64 (x4.2.2.2.1 + (((List.length x4.2.2.2.2.2.1) : Nat) : Int))))) (0 : Int)) + x4.2.2.2.2.2.2.1))) , (x4.2.2.2.2.1 , ()))))))
 else none)
 else none)
 else none)
 else none))
abbrev P.s_l01NatMul_b0 (k : Nat) (x1 : (Int × (Int × ((List Int) × ((List Int) × ((List Int) × Unit)))))) (g2 : (Int × (Int × ((List Int) × ((List Int) × ((List Int) × Unit))))) → Option ((List Int) × Unit)) : Option ((List Int) × Unit) :=
 (if ((decide (x1.1 < x1.2.1)) = true) then (loopP (X := (Int × (Int × ((List Int) × (Int × ((List Int) × ((List Int) × (Int × (Int × (Int × Unit)))))))))) (R := ((List Int) × Unit)) (P.s_l01NatMul_b3 g2) k ((0 : Int) , ((((List.length x1.2.2.1) : Nat) : Int) , (x1.2.2.2.1 , (x1.1 , (x1.2.2.2.2.1 , (x1.2.2.1 , ((0 : Int) , (x1.1 , (x1.2.1 , ()))))))))))
 else (Option.bind (S.s_l01Trim (x1.2.2.2.1 , ())) (fun (y6 : ((List Int) × Unit)) => (some (y6.1 , ())))))
def P.s_l01NatMul (k : Nat) (x : ((List Int) × ((List Int) × Unit))) : (Option ((List Int) × Unit)) :=
 (if ((decide ((0 : Int) ≤ (Go.IntKind.wrap Go.IntKind.i64 ((((List.length x.1) : Nat) : Int) + (((List.length x.2.1) : Nat) : Int))))) = true) then (if ((decide ((Go.IntKind.wrap Go.IntKind.i64 ((((List.length x.1) : Nat) : Int) + (((List.length x.2.1) : Nat) : Int))) ≤ (Go.IntKind.wrap Go.IntKind.i64 ((((List.length x.1) : Nat) : Int) + (((List.length x.2.1) : Nat) : Int))))) = true) then (if ((decide (((Go.IntKind.wrap Go.IntKind.i64 ((((List.length x.1) : Nat) : Int) + (((List.length x.2.1) : Nat) : Int))) * (8 : Int)) ≤ (281474976710656 : Int))) = true) then (loopP (X := (Int × (Int × ((List Int) × ((List Int) × ((List Int) × Unit)))))) (R := ((List Int) × Unit)) (P.s_l01NatMul_b0 k) k ((0 : Int) , ((((List.length x.1) : Nat) : Int) , (x.2.1 , ((List.replicate (Int.toNat (Go.IntKind.wrap Go.IntKind.i64 ((((List.length x.1) : Nat) : Int) + (((List.length x.2.1) : Nat) : Int)))) (0 : Int)) , (x.1 , ()))))))
 else none)
 else none)
 else none)
theorem sm_inner (g : (Int × (Int × ((List Int) × ((List Int) × ((List Int) × Unit))))) → (Option ((List Int) × Unit))) (F : Option ((List Int) × Unit)) {xs ys : List Int} (hx : dig B10 xs = true) (hy : dig B10 ys = true) (hlx : xs.length ≤ 10000000000) (hly : ys.length ≤ 10000000000) {i : Nat} (hi : i < xs.length) (K : Nat) (hK : ys.length < K)
    (hg : g (((i + 1 : Nat) : Int), ((xs.length : Int), (ys, (fd B10 (xs.length + ys.length) (dval B10 (xs.take (i + 1)) * dval B10 ys), (xs, ()))))) = F) :
    loopP (P.s_l01NatMul_b3 g) K ((0 : Int), ((ys.length : Int), (fd B10 (xs.length + ys.length) (dval B10 (xs.take i) * dval B10 ys), ((i : Int), (xs, (ys, ((0 : Int), ((i : Int), ((xs.length : Int), ()))))))))) = F := by
  have hA := mul_bound B10_le hx hy i (by omega)
  have hA' := mul_bound B10_le hx hy (i + 1) (by omega)
  have gx := dig_getD (B := B10) (by decide) hx i
  have gx1 : xs.getD i 0 < 1000000000 := gx.2
  have gx0 := gx.1
  rw [dval_take_succ, Nat.add_mul, Nat.mul_assoc] at hg hA'
  generalize dval B10 (xs.take i) * dval B10 ys = A at *
  obtain ⟨x, hxe⟩ : ∃ x : Nat, xs.getD i 0 = (x : Int) := ⟨(xs.getD i 0).toNat, by omega⟩
  rw [hxe, Int.toNat_natCast] at hg hA'
  rw [hxe] at gx1
  have hxB : x < B10 := by show x < 1000000000; omega
  have hsh := mul_shape B10_le hi hA
  rw [hsh]
  have hlw : (fd B10 ys.length (A / B10 ^ i)).length = ys.length := fd_len _ _ _
  have hdw : dig B10 (fd B10 ys.length (A / B10 ^ i)) = true := dig_fd (by decide) _ _
  have hvw : dval B10 (fd B10 ys.length (A / B10 ^ i)) = A / B10 ^ i := by
    rw [dval_fd, Nat.mod_eq_of_lt]
    rw [Nat.div_lt_iff_lt_mul (Nat.pow_pos (by decide)), ← Nat.pow_add, Nat.add_comm]
    exact hA
  have hnext := mul_next B10_le (la := xs.length) (lb := ys.length) (R := x * dval B10 ys) hi hA'
  generalize hR : List.replicate (xs.length - 1 - i) (0 : Int) = R at *
  have hRl : R.length = xs.length - 1 - i := by rw [← hR, List.length_replicate]
  generalize hW : fd B10 ys.length (A / B10 ^ i) = W at *
  have hl0 : (fd B10 i A).length = i := fd_len _ _ _
  have key := loop_up0 (k := K) (b := P.s_l01NatMul_b3 g) (n := ys.length) (st := fun k => ((k : Int), (ys.length : Int), (fd B10 i A ++ (maUp B10 x W ys k).1) ++ (W.drop k ++ (0 : Int) :: R), (i : Int), xs, ys, ((maUp B10 x W ys k).2 : Int), (i : Int), (xs.length : Int), ())) (F := fun k => F) (fun k g' hk hg' => by
    unfold P.s_l01NatMul_b3
    dsimp only at hg' ⊢
    refine Eq.trans ?_ hg'
    clear hg'
    obtain ⟨q1, q2, q3, q4⟩ := maUp_ok (x := x) B10_le hxB hdw hy k
    have q4' : (maUp B10 x W ys k).2 < 1000000000 := q4
    have gy := dig_getD (B := B10) (by decide) hy k
    have gw := dig_getD (B := B10) (by decide) hdw k
    have gy1 : ys.getD k 0 < 1000000000 := gy.2
    have gw1 : W.getD k 0 < 1000000000 := gw.2
    have gy0 := gy.1
    have gw0 := gw.1
    have hAl : (fd B10 i A ++ (maUp B10 x W ys k).1).length = i + k := by rw [List.length_append, hl0, q2]
    have hlen : ((fd B10 i A ++ (maUp B10 x W ys k).1) ++ (W.drop k ++ (0 : Int) :: R)).length = xs.length + ys.length := by
      rw [List.length_append, hAl, List.length_append, List.length_drop, List.length_cons, hlw, hRl]
      omega
    have e1 : (k : Int) < (ys.length : Int) := by omega
    have e2 : (0 : Int) ≤ (k : Int) := by omega
    have e3 : (0 : Int) ≤ ((i + k : Nat) : Int) := by omega
    have e4 : ((i + k : Nat) : Int) < ((xs.length + ys.length : Nat) : Int) := by omega
    have e5 : (0 : Int) ≤ (i : Int) := by omega
    have e6 : (i : Int) < (xs.length : Int) := by omega
    rw [hlen, ← Int.natCast_add i k, wr (x := ((i + k : Nat) : Int)) (by omega) (by omega)]
    simp only [e1, e2, e3, e4, e5, e6, decide_true, if_true, Nat.zero_add, Int.toNat_natCast]
    rw [drop_cons_getD (xs := W) (i := k) (by omega), List.cons_append, mid_get hAl, hxe]
    simp only [mid_set hAl]
    rw [maUp]
    dsimp only
    generalize W.getD k 0 = w at *
    generalize ys.getD k 0 = y at *
    generalize maUp B10 x W ys k = p at *
    obtain ⟨pl, c0⟩ := p
    dsimp only at *
    obtain ⟨Y, rfl⟩ : ∃ Y : Nat, y = (Y : Int) := ⟨y.toNat, by omega⟩
    obtain ⟨w', rfl⟩ : ∃ Y : Nat, w = (Y : Int) := ⟨w.toNat, by omega⟩
    rw [Int.toNat_natCast, Int.toNat_natCast]
    have hxY : x * Y ≤ 999999999 * 999999999 := Nat.mul_le_mul (by omega) (by omega)
    rw [← Int.natCast_mul, wr (x := ((x * Y : Nat) : Int)) (by omega) (by omega), ← Int.natCast_add, wr (x := ((w' + x * Y : Nat) : Int)) (by omega) (by omega), ← Int.natCast_add, wr (x := ((w' + x * Y + c0 : Nat) : Int)) (by omega) (by omega), Int.tdiv_eq_ediv_of_nonneg (by omega), Int.tmod_eq_emod_of_nonneg (by omega), wr (x := (k : Int) + 1) (by omega) (by omega)]
    have e8 : ((w' + x * Y + c0 : Nat) : Int) % 1000000000 = (((c0 + (x * Y + w')) % B10 : Nat) : Int) := by
      show _ = (((c0 + (x * Y + w')) % 1000000000 : Nat) : Int)
      omega
    have e9 : ((w' + x * Y + c0 : Nat) : Int) / 1000000000 = (((c0 + (x * Y + w')) / B10 : Nat) : Int) := by
      show _ = (((c0 + (x * Y + w')) / 1000000000 : Nat) : Int)
      omega
    have e10 : (c0 + (x * Y + w')) / B10 ≤ 4000000000 := by
      show (c0 + (x * Y + w')) / 1000000000 ≤ _
      omega
    rw [e8, e9, wr (x := (((c0 + (x * Y + w')) / B10 : Nat) : Int)) (by omega) (by omega), ← List.append_assoc (fd B10 i A)]
    rfl) (fun g' => by
    unfold P.s_l01NatMul_b3
    dsimp only
    obtain ⟨q1, q2, q3, q4⟩ := maUp_ok (x := x) B10_le hxB hdw hy ys.length
    have q4' : (maUp B10 x W ys ys.length).2 < 1000000000 := q4
    rw [List.take_length, ← hlw, List.take_length, hlw, hvw] at q3
    have hAl : (fd B10 i A ++ (maUp B10 x W ys ys.length).1).length = i + ys.length := by rw [List.length_append, hl0, q2]
    have hlen : ((fd B10 i A ++ (maUp B10 x W ys ys.length).1) ++ (W.drop ys.length ++ (0 : Int) :: R)).length = xs.length + ys.length := by
      rw [List.length_append, hAl, List.length_append, List.length_drop, List.length_cons, hlw, hRl]
      omega
    have e1 : ¬ ((ys.length : Int) < (ys.length : Int)) := by omega
    have e3 : (0 : Int) ≤ ((i + ys.length : Nat) : Int) := by omega
    have e4 : ((i + ys.length : Nat) : Int) < ((xs.length + ys.length : Nat) : Int) := by omega
    rw [hlen, ← Int.natCast_add i ys.length, wr (x := ((i + ys.length : Nat) : Int)) (by omega) (by omega)]
    simp only [e1, e3, e4, decide_true, decide_false, if_true, if_false, Bool.false_eq_true, Nat.zero_add, Int.toNat_natCast]
    rw [List.drop_of_length_le (by omega), List.nil_append, mid_get hAl, mid_set hAl, Int.zero_add, wr (x := ((maUp B10 x W ys ys.length).2 : Int)) (by omega) (by omega), wr (x := (i : Int) + 1) (by omega) (by omega)]
    generalize maUp B10 x W ys ys.length = p at *
    obtain ⟨pl, c0⟩ := p
    dsimp only at *
    have hlt := dval_lt q1
    rw [q2] at hlt
    have hpl : pl = fd B10 ys.length (A / B10 ^ i + x * dval B10 ys) := by
      have := fd_eq B10_le q1 q2 rfl
      rw [this, ← q3, ← fd_mod B10 ys.length (_ + _), Nat.add_mul_mod_self_left, fd_mod]
    have hc0 : c0 = (A / B10 ^ i + x * dval B10 ys) / B10 ^ ys.length := by
      rw [← q3, Nat.add_mul_div_left _ _ (Nat.pow_pos (by decide)), Nat.div_eq_of_lt hlt, Nat.zero_add]
    rw [List.append_assoc _ [_], List.singleton_append, hpl, hc0, hnext]
    exact hg) hK
  rw [show (fd B10 i A ++ (maUp B10 x W ys 0).1) ++ (W.drop 0 ++ (0 : Int) :: R) = (fd B10 i A ++ W) ++ (0 : Int) :: R by rw [show (maUp B10 x W ys 0).1 = [] from rfl, List.append_nil, List.drop_zero, List.append_assoc]] at key
  exact key
def S.s_l01NatMul (x : ((List Int) × ((List Int) × Unit))) : (Option ((List Int) × Unit)) := if dig B10 x.1 = true ∧ dig B10 x.2.1 = true ∧ x.1.length ≤ 10000000000 ∧ x.2.1.length ≤ 10000000000 then some (nd B10 (dval B10 x.1 * dval B10 x.2.1), ()) else none
theorem S.s_l01NatMul_ok (x : ((List Int) × ((List Int) × Unit))) (r : _) (h : S.s_l01NatMul x = some r) : ∃ k, P.s_l01NatMul k x = some r := by
  obtain ⟨xs, ys, u⟩ := x
  unfold S.s_l01NatMul at h
  dsimp only at h
  split at h
  case isFalse => cases h
  rename_i hc
  obtain ⟨dx, dy, lx, ly⟩ := hc
  cases h
  refine ⟨xs.length + ys.length + 1, ?_⟩
  unfold P.s_l01NatMul
  dsimp only
  have a1 : (0 : Int) ≤ ((xs.length + ys.length : Nat) : Int) := by omega
  have a2 : ((xs.length + ys.length : Nat) : Int) * 8 ≤ 281474976710656 := by omega
  rw [← Int.natCast_add, wr (x := ((xs.length + ys.length : Nat) : Int)) (by omega) (by omega)]
  simp only [a1, a2, decide_true, if_true, Int.le_refl, Int.toNat_natCast]
  have key := loop_up0 (k := xs.length + ys.length + 1) (b := P.s_l01NatMul_b0 (xs.length + ys.length + 1)) (n := xs.length) (st := fun i => ((i : Int), (xs.length : Int), ys, fd B10 (xs.length + ys.length) (dval B10 (xs.take i) * dval B10 ys), xs, ())) (F := fun i => some (nd B10 (dval B10 xs * dval B10 ys), ())) (fun i g hi hg => by
    unfold P.s_l01NatMul_b0
    dsimp only at hg ⊢
    have e1 : (i : Int) < (xs.length : Int) := by omega
    simp only [e1, decide_true, if_true]
    exact sm_inner g _ dx dy lx ly hi _ (by omega) hg) (fun g => by
    unfold P.s_l01NatMul_b0
    dsimp only
    rw [if_neg (by simp), List.take_length]
    unfold S.s_l01Trim
    dsimp only
    have hb := mul_bound B10_le dx dy xs.length (Nat.le_refl _)
    rw [List.take_length] at hb
    rw [if_pos ⟨dig_fd (by decide) _ _, by rw [fd_len]; omega⟩, Option.bind_some, nd_fd B10_le hb]) (by omega)
  rw [List.take_zero, show dval B10 [] * dval B10 ys = 0 by simp [dval], fd_zero] at key
  exact key
def P.s_l01Digit (k : Nat) (x : ((List Int) × (Int × Unit))) : (Option (Int × Unit)) :=
 (if ((decide (x.2.1 < (((List.length x.1) : Nat) : Int))) = true) then (if ((decide ((0 : Int) ≤ x.2.1)) = true) then (if ((decide (x.2.1 < (((List.length x.1) : Nat) : Int))) = true) then (some ((List.getD x.1 (Int.toNat x.2.1) (0 : Int)) , ()))
 else none)
 else none)
 else (some ((0 : Int) , ())))
def S.s_l01Digit (x : ((List Int) × (Int × Unit))) : (Option (Int × Unit)) := P.s_l01Digit 0 x
theorem S.s_l01Digit_ok (x : ((List Int) × (Int × Unit))) (r : _) (h : S.s_l01Digit x = some r) : ∃ k, P.s_l01Digit k x = some r := ⟨0, h⟩
abbrev P.s_l01NatAdd_b0  (x1 : (Int × ((List Int) × ((List Int) × (Int × ((List Int) × Unit)))))) (g2 : (Int × ((List Int) × ((List Int) × (Int × ((List Int) × Unit))))) → Option ((List Int) × Unit)) : Option ((List Int) × Unit) :=
 (if ((decide (x1.1 < (((List.length x1.2.1) : Nat) : Int))) = true) then (Option.bind (S.s_l01Digit (x1.2.1 , (x1.1 , ()))) (fun (y3 : (Int × Unit)) => (Option.bind (S.s_l01Digit (x1.2.2.1 , (x1.1 , ()))) (fun (y4 : (Int × Unit)) => (if ((decide ((((List.length x1.2.2.2.2.1) + (List.length ((Int.tmod (Go.IntKind.wrap Go.IntKind.i64 ((Go.IntKind.wrap Go.IntKind.i64 (y3.1 + y4.1)) + x1.2.2.2.1)) (1000000000 : Int)) :: ([] : List Int)))) * (8 : Nat)) ≤ (140737488355328 : Nat))) = true) then (g2 ((Go.IntKind.wrap Go.IntKind.i64 (x1.1 + (1 : Int))) , (x1.2.1 , (x1.2.2.1 , ((Go.IntKind.wrap Go.IntKind.i64 (Int.tdiv (Go.IntKind.wrap Go.IntKind.i64 ((Go.IntKind.wrap Go.IntKind.i64 (y3.1 + y4.1)) + x1.2.2.2.1)) (1000000000 : Int))) , ((x1.2.2.2.2.1 ++ ((Int.tmod (Go.IntKind.wrap Go.IntKind.i64 ((Go.IntKind.wrap Go.IntKind.i64 (y3.1 + y4.1)) + x1.2.2.2.1)) (1000000000 : Int)) :: ([] : List Int))) , ()))))))
 else none)))))
 else (if ((decide (x1.1 < (((List.length x1.2.2.1) : Nat) : Int))) = true) then (Option.bind (S.s_l01Digit (x1.2.1 , (x1.1 , ()))) (fun (y5 : (Int × Unit)) => (Option.bind (S.s_l01Digit (x1.2.2.1 , (x1.1 , ()))) (fun (y6 : (Int × Unit)) => (if ((decide ((((List.length x1.2.2.2.2.1) + (List.length ((Int.tmod (Go.IntKind.wrap Go.IntKind.i64 ((Go.IntKind.wrap Go.IntKind.i64 (y5.1 + y6.1)) + x1.2.2.2.1)) (1000000000 : Int)) :: ([] : List Int)))) * (8 : Nat)) ≤ (140737488355328 : Nat))) = true) then (g2 ((Go.IntKind.wrap Go.IntKind.i64 (x1.1 + (1 : Int))) , (x1.2.1 , (x1.2.2.1 , ((Go.IntKind.wrap Go.IntKind.i64 (Int.tdiv (Go.IntKind.wrap Go.IntKind.i64 ((Go.IntKind.wrap Go.IntKind.i64 (y5.1 + y6.1)) + x1.2.2.2.1)) (1000000000 : Int))) , ((x1.2.2.2.2.1 ++ ((Int.tmod (Go.IntKind.wrap Go.IntKind.i64 ((Go.IntKind.wrap Go.IntKind.i64 (y5.1 + y6.1)) + x1.2.2.2.1)) (1000000000 : Int)) :: ([] : List Int))) , ()))))))
 else none)))))
 else (if ((decide (x1.2.2.2.1 > (0 : Int))) = true) then (Option.bind (S.s_l01Digit (x1.2.1 , (x1.1 , ()))) (fun (y7 : (Int × Unit)) => (Option.bind (S.s_l01Digit (x1.2.2.1 , (x1.1 , ()))) (fun (y8 : (Int × Unit)) => (if ((decide ((((List.length x1.2.2.2.2.1) + (List.length ((Int.tmod (Go.IntKind.wrap Go.IntKind.i64 ((Go.IntKind.wrap Go.IntKind.i64 (y7.1 + y8.1)) + x1.2.2.2.1)) (1000000000 : Int)) :: ([] : List Int)))) * (8 : Nat)) ≤ (140737488355328 : Nat))) = true) then (g2 ((Go.IntKind.wrap Go.IntKind.i64 (x1.1 + (1 : Int))) , (x1.2.1 , (x1.2.2.1 , ((Go.IntKind.wrap Go.IntKind.i64 (Int.tdiv (Go.IntKind.wrap Go.IntKind.i64 ((Go.IntKind.wrap Go.IntKind.i64 (y7.1 + y8.1)) + x1.2.2.2.1)) (1000000000 : Int))) , ((x1.2.2.2.2.1 ++ ((Int.tmod (Go.IntKind.wrap Go.IntKind.i64 ((Go.IntKind.wrap Go.IntKind.i64 (y7.1 + y8.1)) + x1.2.2.2.1)) (1000000000 : Int)) :: ([] : List Int))) , ()))))))
 else none)))))
 else (some (x1.2.2.2.2.1 , ())))))
def P.s_l01NatAdd (k : Nat) (x : ((List Int) × ((List Int) × Unit))) : (Option ((List Int) × Unit)) :=
 (loopP (X := (Int × ((List Int) × ((List Int) × (Int × ((List Int) × Unit)))))) (R := ((List Int) × Unit)) (P.s_l01NatAdd_b0 ) k ((0 : Int) , (x.1 , (x.2.1 , ((0 : Int) , (([] : List Int) , ()))))))
theorem digit_atA (xs : List Int) (i : Nat) (h : xs.length ≤ 100000000000) : S.s_l01Digit (xs, ((i : Int), ())) = some (xs.getD i 0, ()) := by
  unfold S.s_l01Digit P.s_l01Digit
  dsimp only
  by_cases hi : (i : Int) < (xs.length : Int)
  · have h0 : (0 : Int) ≤ (i : Int) := by omega
    rw [if_pos (decide_eq_true hi), if_pos (decide_eq_true h0), if_pos (decide_eq_true hi), Int.toNat_natCast]
  · rw [if_neg (by simpa using hi), List.getD_eq_getElem?_getD, List.getElem?_eq_none (by omega)]
    rfl
theorem addA_round (xs ys : List Int) (dx : dig B10 xs = true) (dy : dig B10 ys = true) (lx : xs.length ≤ 10000000000) (ly : ys.length ≤ 10000000000) (i : Nat) (hi : i ≤ 100000000000) (hc : i < xs.length ∨ i < ys.length ∨ 0 < (addUp B10 xs ys i).2) (g : (Int × ((List Int) × ((List Int) × (Int × ((List Int) × Unit))))) → Option ((List Int) × Unit)) :
    P.s_l01NatAdd_b0 ((i : Int), xs, ys, ((addUp B10 xs ys i).2 : Int), (addUp B10 xs ys i).1, ()) g = g (((i + 1 : Nat) : Int), xs, ys, ((addUp B10 xs ys (i + 1)).2 : Int), (addUp B10 xs ys (i + 1)).1, ()) := by
  obtain ⟨q1, q2, q3, q4⟩ := addUp_ok B10_le dx dy i
  have gx := dig_getD (B := B10) (by decide) dx i
  have gy := dig_getD (B := B10) (by decide) dy i
  have gx1 : xs.getD i 0 < 1000000000 := gx.2
  have gy1 : ys.getD i 0 < 1000000000 := gy.2
  have gx0 := gx.1
  have gy0 := gy.1
  have body : (Option.bind (S.s_l01Digit (xs , ((i : Int) , ()))) (fun (y3 : (Int × Unit)) => (Option.bind (S.s_l01Digit (ys , ((i : Int) , ()))) (fun (y4 : (Int × Unit)) => (if ((decide ((((List.length (addUp B10 xs ys i).1) + (List.length ((Int.tmod (Go.IntKind.wrap Go.IntKind.i64 ((Go.IntKind.wrap Go.IntKind.i64 (y3.1 + y4.1)) + ((addUp B10 xs ys i).2 : Int))) (1000000000 : Int)) :: ([] : List Int)))) * (8 : Nat)) ≤ (140737488355328 : Nat))) = true) then (g ((Go.IntKind.wrap Go.IntKind.i64 ((i : Int) + (1 : Int))) , (xs , (ys , ((Go.IntKind.wrap Go.IntKind.i64 (Int.tdiv (Go.IntKind.wrap Go.IntKind.i64 ((Go.IntKind.wrap Go.IntKind.i64 (y3.1 + y4.1)) + ((addUp B10 xs ys i).2 : Int))) (1000000000 : Int))) , (((addUp B10 xs ys i).1 ++ ((Int.tmod (Go.IntKind.wrap Go.IntKind.i64 ((Go.IntKind.wrap Go.IntKind.i64 (y3.1 + y4.1)) + ((addUp B10 xs ys i).2 : Int))) (1000000000 : Int)) :: ([] : List Int))) , ()))))))
 else none))))) = g (((i + 1 : Nat) : Int), xs, ys, ((addUp B10 xs ys (i + 1)).2 : Int), (addUp B10 xs ys (i + 1)).1, ()) := by
    rw [digit_atA xs i (by omega), Option.bind_some, digit_atA ys i (by omega), Option.bind_some]
    dsimp only
    rw [addUp]
    generalize xs.getD i 0 = x at *
    generalize ys.getD i 0 = y at *
    generalize addUp B10 xs ys i = p at *
    obtain ⟨pl, c0⟩ := p
    dsimp only at *
    obtain ⟨X, rfl⟩ : ∃ Y : Nat, x = (Y : Int) := ⟨x.toNat, by omega⟩
    obtain ⟨Y, rfl⟩ : ∃ Y : Nat, y = (Y : Int) := ⟨y.toNat, by omega⟩
    rw [Int.toNat_natCast, Int.toNat_natCast, wr (x := (X : Int) + (Y : Int)) (by omega) (by omega), wr (x := (X : Int) + (Y : Int) + (c0 : Int)) (by omega) (by omega), Int.tmod_eq_emod_of_nonneg (by omega), Int.tdiv_eq_ediv_of_nonneg (by omega)]
    have e8 : ((X : Int) + (Y : Int) + (c0 : Int)) % 1000000000 = (((c0 + X + Y) % B10 : Nat) : Int) := by
      show _ = (((c0 + X + Y) % 1000000000 : Nat) : Int)
      omega
    have e9 : ((X : Int) + (Y : Int) + (c0 : Int)) / 1000000000 = (((c0 + X + Y) / B10 : Nat) : Int) := by
      show _ = (((c0 + X + Y) / 1000000000 : Nat) : Int)
      omega
    have b2 : (c0 + X + Y) / B10 ≤ 1000000000 := by
      show (c0 + X + Y) / 1000000000 ≤ 1000000000
      omega
    have hcap : (pl.length + [(((c0 + X + Y) % B10 : Nat) : Int)].length) * 8 ≤ 140737488355328 := by
      rw [q2, List.length_singleton]
      omega
    rw [e8, e9, if_pos (decide_eq_true hcap), wr (x := (((c0 + X + Y) / B10 : Nat) : Int)) (by omega) (by omega), wr (x := (i : Int) + 1) (by omega) (by omega)]
    rfl
  unfold P.s_l01NatAdd_b0
  dsimp only
  by_cases h1 : i < xs.length
  · have h1' : (i : Int) < (xs.length : Int) := by omega
    rw [if_pos (decide_eq_true h1')]
    exact body
  · have h1' : ¬ (i : Int) < (xs.length : Int) := by omega
    rw [if_neg (by simpa using h1')]
    by_cases h2 : i < ys.length
    · have h2' : (i : Int) < (ys.length : Int) := by omega
      rw [if_pos (decide_eq_true h2')]
      exact body
    · have h2' : ¬ (i : Int) < (ys.length : Int) := by omega
      have h3 : ((addUp B10 xs ys i).2 : Int) > 0 := by
        rcases hc with h | h | h
        · exact absurd h h1
        · exact absurd h h2
        · omega
      rw [if_neg (by simpa using h2'), if_pos (decide_eq_true h3)]
      exact body
def S.s_l01NatAdd (x : ((List Int) × ((List Int) × Unit))) : (Option ((List Int) × Unit)) := if canon B10 x.1 = true ∧ canon B10 x.2.1 = true ∧ x.1.length ≤ 10000000000 ∧ x.2.1.length ≤ 10000000000 then some (nd B10 (dval B10 x.1 + dval B10 x.2.1), ()) else none
theorem S.s_l01NatAdd_ok (x : ((List Int) × ((List Int) × Unit))) (r : _) (h : S.s_l01NatAdd x = some r) : ∃ k, P.s_l01NatAdd k x = some r := by
  obtain ⟨xs, ys, u⟩ := x
  unfold S.s_l01NatAdd at h
  dsimp only at h
  split at h
  case isFalse => cases h
  rename_i hc
  obtain ⟨cx, cy, lx, ly⟩ := hc
  cases h
  have dx := canon_dig cx
  have dy := canon_dig cy
  obtain ⟨N, hN, hNx, hNy, hNle⟩ : ∃ N, (N = xs.length ∨ N = ys.length) ∧ xs.length ≤ N ∧ ys.length ≤ N ∧ N ≤ 10000000000 := by
    by_cases h : xs.length ≤ ys.length
    · exact ⟨ys.length, .inr rfl, h, Nat.le_refl _, ly⟩
    · exact ⟨xs.length, .inl rfl, Nat.le_refl _, by omega, lx⟩
  obtain ⟨q1, q2, q3, q4⟩ := addUp_ok B10_le dx dy N
  rw [List.take_of_length_le hNx, List.take_of_length_le hNy] at q3
  -- as many rounds as the sum has digits
  obtain ⟨n, hn, hfull⟩ : ∃ n, (n = N ∧ (addUp B10 xs ys N).2 = 0 ∨ n = N + 1 ∧ 0 < (addUp B10 xs ys N).2) ∧ (n = 0 ∨ B10 ^ (n - 1) ≤ dval B10 xs + dval B10 ys) := by
    by_cases h : (addUp B10 xs ys N).2 = 0
    · refine ⟨N, .inl ⟨rfl, h⟩, ?_⟩
      have one : ∀ zs : List Int, canon B10 zs = true → zs = [] ∨ B10 ^ (zs.length - 1) ≤ dval B10 zs := by
        intro zs cz
        by_cases hz : zs = []
        · exact .inl hz
        · have h0 : dval B10 zs ≠ 0 := fun e => hz ((canon_nil B10_le cz).2 e)
          have := nd_low B10_le h0
          rw [canon_eq cz] at this
          exact .inr this
      rcases hN with e | e
      · rcases one xs cx with h2 | h2
        · left; rw [e, h2]; rfl
        · right; rw [e]; omega
      · rcases one ys cy with h2 | h2
        · left; rw [e, h2]; rfl
        · right; rw [e]; omega
    · refine ⟨N + 1, .inr ⟨rfl, by omega⟩, .inr ?_⟩
      rw [Nat.add_sub_cancel]
      have : B10 ^ N * 1 ≤ B10 ^ N * (addUp B10 xs ys N).2 := Nat.mul_le_mul_left _ (by omega)
      omega
  obtain ⟨r1, r2, r3, r4⟩ := addUp_ok B10_le dx dy n
  rw [List.take_of_length_le (by omega), List.take_of_length_le (by omega)] at r3
  have hlast : (addUp B10 xs ys n).2 = 0 := by
    rcases hn with ⟨rfl, h⟩ | ⟨rfl, h⟩
    · exact h
    · rw [addUp]
      rw [List.getD_eq_getElem?_getD, List.getElem?_eq_none (by omega), List.getD_eq_getElem?_getD, List.getElem?_eq_none (by omega)]
      show ((addUp B10 xs ys N).2 + 0 + 0) / 1000000000 = 0
      omega
  rw [hlast, Nat.mul_zero, Nat.add_zero] at r3
  refine ⟨n + 1, ?_⟩
  unfold P.s_l01NatAdd
  dsimp only
  have key := loop_up0 (k := n + 1) (b := P.s_l01NatAdd_b0) (n := n) (st := fun i => ((i : Int), xs, ys, ((addUp B10 xs ys i).2 : Int), (addUp B10 xs ys i).1, ())) (F := fun i => some (nd B10 (dval B10 xs + dval B10 ys), ())) (fun i g hi hg => by
    rw [addA_round xs ys dx dy lx ly i (by omega) (by
      rcases hn with ⟨rfl, h⟩ | ⟨rfl, h⟩
      · omega
      · by_cases he : i = N
        · subst he
          exact .inr (.inr h)
        · omega)]
    exact hg) (fun g => by
    unfold P.s_l01NatAdd_b0
    dsimp only
    have h1 : ¬ (n : Int) < (xs.length : Int) := by omega
    have h2 : ¬ (n : Int) < (ys.length : Int) := by omega
    rw [if_neg (by simpa using h1), if_neg (by simpa using h2), hlast, if_neg (by simp), ← r3]
    rcases Nat.eq_zero_or_pos n with e | e
    · subst e
      show some ([], ()) = some (nd B10 0, ())
      rw [nd_zero B10_le]
    · have hv : B10 ^ (n - 1) ≤ dval B10 (addUp B10 xs ys n).1 := by
        rcases hfull with h | h
        · omega
        · omega
      have := nd_full B10_le r1 (fun q => by rw [q] at r2; simp at r2; omega) (by rw [r2]; exact hv)
      rw [this]) (by omega)
  exact key
abbrev P.s_l01NatLess_b0  (x1 : (Int × (Int × ((List Int) × ((List Int) × (Int × ((List Int) × Unit))))))) (g2 : (Int × (Int × ((List Int) × ((List Int) × (Int × ((List Int) × Unit)))))) → Option ((List Int) × Unit)) : Option ((List Int) × Unit) :=
 (if ((decide (x1.1 < x1.2.1)) = true) then (if ((decide ((0 : Int) ≤ x1.1)) = true) then (if ((decide (x1.1 < (((List.length x1.2.2.1) : Nat) : Int))) = true) then (Option.bind (S.s_l01Digit (x1.2.2.2.1 , (x1.1 , ()))) (fun (y3 : (Int × Unit)) => (if ((decide ((Go.IntKind.wrap Go.IntKind.i64 ((Go.IntKind.wrap Go.IntKind.i64 ((List.getD x1.2.2.1 (Int.toNat x1.1) (0 : Int)) - y3.1)) - x1.2.2.2.2.1)) < (0 : Int))) = true) then (if ((decide ((((List.length x1.2.2.2.2.2.1) + (List.length ((Go.IntKind.wrap Go.IntKind.i64 ((Go.IntKind.wrap Go.IntKind.i64 ((Go.IntKind.wrap Go.IntKind.i64 ((List.getD x1.2.2.1 (Int.toNat x1.1) (0 : Int)) - y3.1)) - x1.2.2.2.2.1)) + (1000000000 : Int))) :: ([] : List Int)))) * (8 : Nat)) ≤ (140737488355328 : Nat))) = true) then (g2 ((Go.IntKind.wrap Go.IntKind.i64 (x1.1 + (1 : Int))) , (x1.2.1 , (x1.2.2.1 , (x1.2.2.2.1 , ((1 : Int) , ((x1.2.2.2.2.2.1 ++ ((Go.IntKind.wrap Go.IntKind.i64 ((Go.IntKind.wrap Go.IntKind.i64 ((Go.IntKind.wrap Go.IntKind.i64 ((List.getD x1.2.2.1 (Int.toNat x1.1) (0 : Int)) - y3.1)) - x1.2.2.2.2.1)) + (1000000000 : Int))) :: ([] : List Int))) , ())))))))
 else none)
 else (if ((decide ((((List.length x1.2.2.2.2.2.1) + (List.length ((Go.IntKind.wrap Go.IntKind.i64 ((Go.IntKind.wrap Go.IntKind.i64 ((List.getD x1.2.2.1 (Int.toNat x1.1) (0 : Int)) - y3.1)) - x1.2.2.2.2.1)) :: ([] : List Int)))) * (8 : Nat)) ≤ (140737488355328 : Nat))) = true) then (g2 ((Go.IntKind.wrap Go.IntKind.i64 (x1.1 + (1 : Int))) , (x1.2.1 , (x1.2.2.1 , (x1.2.2.2.1 , ((0 : Int) , ((x1.2.2.2.2.2.1 ++ ((Go.IntKind.wrap Go.IntKind.i64 ((Go.IntKind.wrap Go.IntKind.i64 ((List.getD x1.2.2.1 (Int.toNat x1.1) (0 : Int)) - y3.1)) - x1.2.2.2.2.1)) :: ([] : List Int))) , ())))))))
 else none))))
 else none)
 else none)
 else (Option.bind (S.s_l01Trim (x1.2.2.2.2.2.1 , ())) (fun (y4 : ((List Int) × Unit)) => (some (y4.1 , ())))))
def P.s_l01NatLess (k : Nat) (x : ((List Int) × ((List Int) × Unit))) : (Option ((List Int) × Unit)) :=
 (loopP (X := (Int × (Int × ((List Int) × ((List Int) × (Int × ((List Int) × Unit))))))) (R := ((List Int) × Unit)) (P.s_l01NatLess_b0 ) k ((0 : Int) , ((((List.length x.1) : Nat) : Int) , (x.1 , (x.2.1 , ((0 : Int) , (([] : List Int) , ())))))))
theorem digit_at (xs : List Int) (i : Nat) (h : xs.length ≤ 100000000000) : S.s_l01Digit (xs, ((i : Int), ())) = some (xs.getD i 0, ()) := by
  unfold S.s_l01Digit P.s_l01Digit
  dsimp only
  by_cases hi : (i : Int) < (xs.length : Int)
  · have h0 : (0 : Int) ≤ (i : Int) := by omega
    rw [if_pos (decide_eq_true hi), if_pos (decide_eq_true h0), if_pos (decide_eq_true hi), Int.toNat_natCast]
  · rw [if_neg (by simpa using hi), List.getD_eq_getElem?_getD, List.getElem?_eq_none (by omega)]
    rfl
def S.s_l01NatLess (x : ((List Int) × ((List Int) × Unit))) : (Option ((List Int) × Unit)) := if dig B10 x.1 = true ∧ dig B10 x.2.1 = true ∧ x.2.1.length ≤ x.1.length ∧ dval B10 x.2.1 ≤ dval B10 x.1 ∧ x.1.length ≤ 10000000000 then some (nd B10 (dval B10 x.1 - dval B10 x.2.1), ()) else none
theorem S.s_l01NatLess_ok (x : ((List Int) × ((List Int) × Unit))) (r : _) (h : S.s_l01NatLess x = some r) : ∃ k, P.s_l01NatLess k x = some r := by
  obtain ⟨xs, ys, u⟩ := x
  unfold S.s_l01NatLess at h
  dsimp only at h
  split at h
  case isFalse => cases h
  rename_i hc
  obtain ⟨dx, dy, hl, hv, lx⟩ := hc
  cases h
  refine ⟨xs.length + 1, ?_⟩
  unfold P.s_l01NatLess
  dsimp only
  have key := loop_up0 (k := xs.length + 1) (b := P.s_l01NatLess_b0) (n := xs.length) (st := fun i => ((i : Int), (xs.length : Int), xs, ys, ((takeUp B10 1 xs ys i).2.2 : Int), (takeUp B10 1 xs ys i).1, ())) (F := fun i => some (nd B10 (dval B10 xs - dval B10 ys), ())) (fun i g hi hg => by
    unfold P.s_l01NatLess_b0
    dsimp only at hg ⊢
    refine Eq.trans ?_ hg
    clear hg
    obtain ⟨q1, q2, q3, q4, q5⟩ := takeUp_ok (t := 1) B10_le dx dy i
    have gx := dig_getD (B := B10) (by decide) dx i
    have gy := dig_getD (B := B10) (by decide) dy i
    have gx1 : xs.getD i 0 < 1000000000 := gx.2
    have gy1 : ys.getD i 0 < 1000000000 := gy.2
    have gx0 := gx.1
    have gy0 := gy.1
    have e1 : (i : Int) < (xs.length : Int) := by omega
    have e2 : (0 : Int) ≤ (i : Int) := by omega
    simp only [e1, e2, decide_true, if_true, Int.toNat_natCast]
    rw [digit_at ys i (by omega), Option.bind_some]
    dsimp only
    rw [(takeUp_one B10_le (xs := xs) dy i).2]
    dsimp only
    generalize (takeUp B10 1 xs ys i).1 = pl at *
    generalize (takeUp B10 1 xs ys i).2.2 = l0 at *
    obtain ⟨x, hx⟩ : ∃ x, xs.getD i 0 = x := ⟨_, rfl⟩
    obtain ⟨y, hy⟩ : ∃ y, ys.getD i 0 = y := ⟨_, rfl⟩
    simp only [hx, hy] at gx1 gx0 gy1 gy0 ⊢
    have hB : ((B10 : Nat) : Int) = 1000000000 := rfl
    have hcap : ∀ v : Int, (pl.length + [v].length) * 8 ≤ 140737488355328 := by
      intro v
      rw [q2, List.length_singleton]
      omega
    rw [wr (x := (i : Int) + 1) (by omega) (by omega), wr (x := x - y) (by omega) (by omega), wr (x := x - y - (l0 : Int)) (by omega) (by omega), wr (x := x - y - (l0 : Int) + 1000000000) (by omega) (by omega), hB]
    by_cases hn : x - y - (l0 : Int) < 0
    · rw [if_pos (decide_eq_true hn), if_pos (decide_eq_true (hcap _)), if_pos hn, show (x - y - (l0 : Int)) % 1000000000 = x - y - (l0 : Int) + 1000000000 by omega]
      rfl
    · have e11 : (x - y - (l0 : Int)) % 1000000000 = x - y - (l0 : Int) := by omega
      rw [if_neg (by simpa using hn), if_pos (decide_eq_true (hcap _)), if_neg hn, e11]
      rfl) (fun g => by
    unfold P.s_l01NatLess_b0
    dsimp only
    rw [if_neg (by simp), takeUp_fd B10_le dx dy hl hv]
    unfold S.s_l01Trim
    dsimp only
    have hb := dval_lt dx
    rw [if_pos ⟨dig_fd (by decide) _ _, by rw [fd_len]; omega⟩, Option.bind_some, nd_fd B10_le (by omega)]) (by omega)
  exact key
abbrev P.s_l01Nat_b0  (x1 : (Int × ((List Int) × Unit))) (g2 : (Int × ((List Int) × Unit)) → Option ((List Int) × Unit)) : Option ((List Int) × Unit) :=
 (if ((decide (x1.1 > (0 : Int))) = true) then (if ((decide ((((List.length x1.2.1) + (List.length ((Int.tmod x1.1 (1000000000 : Int)) :: ([] : List Int)))) * (8 : Nat)) ≤ (140737488355328 : Nat))) = true) then (g2 ((Go.IntKind.wrap Go.IntKind.i64 (Int.tdiv x1.1 (1000000000 : Int))) , ((x1.2.1 ++ ((Int.tmod x1.1 (1000000000 : Int)) :: ([] : List Int))) , ())))
 else none)
 else (some (x1.2.1 , ())))
def P.s_l01Nat (k : Nat) (x : (Int × Unit)) : (Option ((List Int) × Unit)) :=
 (loopP (X := (Int × ((List Int) × Unit))) (R := ((List Int) × Unit)) (P.s_l01Nat_b0 ) k (x.1 , (([] : List Int) , ())))
def S.s_l01Nat (x : (Int × Unit)) : (Option ((List Int) × Unit)) := if 0 ≤ x.1 ∧ x.1 ≤ 9223372036854775807 then some (nd B10 x.1.toNat, ()) else none
theorem l01Nat_loop (k : Nat) : ∀ (n : Nat) (out : List Int), n < 2 ^ k → n ≤ 9223372036854775807 → out.length + k ≤ 1000000 → loopP (X := (Int × ((List Int) × Unit))) (R := ((List Int) × Unit)) P.s_l01Nat_b0 (k + 1) ((n : Int), (out, ())) = some (out ++ nd B10 n, ()) := by
  induction k with
  | zero =>
    intro n out hn _ _
    have : n = 0 := by omega
    subst this
    rw [loopP_succ]
    unfold P.s_l01Nat_b0
    rw [if_neg (by simp), nd_zero B10_le, List.append_nil]
  | succ k ih =>
    intro n out hn hm ho
    rw [loopP_succ]
    unfold P.s_l01Nat_b0
    dsimp only
    by_cases h : n = 0
    · subst h
      rw [if_neg (by simp), nd_zero B10_le, List.append_nil]
    · have e1 : (n : Int) > 0 := by omega
      have e2 : (out.length + (Int.tmod (n : Int) 1000000000 :: ([] : List Int)).length) * 8 ≤ 140737488355328 := by simp; omega
      rw [if_pos (decide_eq_true e1), if_pos (decide_eq_true e2)]
      have eT : Int.tdiv (n : Int) 1000000000 = ((n / 1000000000 : Nat) : Int) := by rw [Int.tdiv_eq_ediv_of_nonneg (by omega)]; omega
      have eM : Int.tmod (n : Int) 1000000000 = ((n % 1000000000 : Nat) : Int) := by rw [Int.tmod_eq_emod_of_nonneg (by omega)]; omega
      rw [eT, eM, wr (by omega) (by omega), ih (n / 1000000000) _ (by rw [Nat.pow_succ] at hn; omega) (by omega) (by simp; omega), nd_pos B10_le h, List.append_assoc]
      rfl
theorem S.s_l01Nat_ok (x : (Int × Unit)) (r : _) (h : S.s_l01Nat x = some r) : ∃ k, P.s_l01Nat k x = some r := by
  obtain ⟨n, u⟩ := x
  unfold S.s_l01Nat at h
  dsimp only at h
  split at h
  case isFalse => cases h
  rename_i hc
  cases h
  refine ⟨64, ?_⟩
  unfold P.s_l01Nat
  dsimp only
  have := l01Nat_loop 63 n.toNat [] (by have : (2:Nat) ^ 63 = 9223372036854775808 := by decide
                                        omega) (by omega) (by simp)
  rw [show ((n.toNat : Nat) : Int) = n by omega] at this
  exact this
def P.s_l01Small (k : Nat) (x : ((List Int) × Unit)) : (Option ((Int × Bool) × Unit)) :=
 (if ((decide ((((List.length x.1) : Nat) : Int) > (2 : Int))) = true) then (some (((0 : Int) , false) , ()))
 else (Option.bind (S.s_l01Digit (x.1 , ((0 : Int) , ()))) (fun (y0 : (Int × Unit)) => (Option.bind (S.s_l01Digit (x.1 , ((1 : Int) , ()))) (fun (y1 : (Int × Unit)) => (some (((Go.IntKind.wrap Go.IntKind.i64 (y0.1 + (Go.IntKind.wrap Go.IntKind.i64 ((1000000000 : Int) * y1.1)))) , true) , ())))))))
theorem dig_s (xs : List Int) (i : Nat) : S.s_l01Digit (xs, ((i : Int), ())) = some (xs.getD i 0, ()) := by
  unfold S.s_l01Digit P.s_l01Digit
  dsimp only
  by_cases h : i < xs.length
  · have e1 : (i : Int) < (xs.length : Int) := by omega
    have e2 : (0 : Int) ≤ (i : Int) := by omega
    simp only [e1, e2, decide_true, if_true, Int.toNat_natCast]
  · rw [if_neg (by simp; omega)]
    simp [List.getD, List.getElem?_eq_none (Nat.le_of_not_lt h)]
def S.s_l01Small (x : ((List Int) × Unit)) : (Option ((Int × Bool) × Unit)) := if dig B10 x.1 = true ∧ x.1.length ≤ 1000000000000 then some ((if x.1.length ≤ 2 then ((dval B10 x.1 : Nat) : Int) else 0, decide (x.1.length ≤ 2)), ()) else none
theorem S.s_l01Small_ok (x : ((List Int) × Unit)) (r : _) (h : S.s_l01Small x = some r) : ∃ k, P.s_l01Small k x = some r := by
  obtain ⟨xs, u⟩ := x
  unfold S.s_l01Small at h
  dsimp only at h
  split at h
  case isFalse => cases h
  rename_i hc
  obtain ⟨hd, hl⟩ := hc
  cases h
  refine ⟨0, ?_⟩
  unfold P.s_l01Small
  dsimp only
  by_cases h2 : xs.length ≤ 2
  · rw [if_neg (by simp; omega), if_pos h2, decide_eq_true h2]
    rw [show S.s_l01Digit (xs, ((0 : Int), ())) = _ from dig_s xs 0, show S.s_l01Digit (xs, ((1 : Int), ())) = _ from dig_s xs 1, Option.bind_some, Option.bind_some]
    dsimp only
    match xs, hd, h2 with
    | [], _, _ => rfl
    | [a], hd, _ =>
      rw [dig_cons] at hd
      have h1 : a < 1000000000 := hd.1.2
      have h0 := hd.1.1
      show some ((Go.IntKind.wrap Go.IntKind.i64 (a + Go.IntKind.wrap Go.IntKind.i64 (1000000000 * 0)), true), ()) = _
      rw [wr (x := (1000000000 : Int) * 0) (by omega) (by omega), wr (by omega) (by omega)]
      simp only [dval, Option.some.injEq, Prod.mk.injEq, and_true]
      omega
    | [a, b], hd, _ =>
      rw [dig_cons, dig_cons] at hd
      have h1 : a < 1000000000 := hd.1.2
      have h0 := hd.1.1
      have h3 : b < 1000000000 := hd.2.1.2
      have h4 := hd.2.1.1
      show some ((Go.IntKind.wrap Go.IntKind.i64 (a + Go.IntKind.wrap Go.IntKind.i64 (1000000000 * b)), true), ()) = _
      rw [wr (x := (1000000000 : Int) * b) (by omega) (by omega), wr (by omega) (by omega)]
      simp only [dval, Option.some.injEq, Prod.mk.injEq, and_true]
      show _ = ((a.toNat + 1000000000 * (b.toNat + 1000000000 * 0) : Nat) : Int)
      omega
    | _ :: _ :: _ :: _, _, h2 => simp at h2
  · rw [if_pos (decide_eq_true (by omega)), if_neg h2, decide_eq_false h2]
abbrev P.s_l01ShortMul_b0  (x1 : (Int × (Int × ((List Int) × (Int × (Int × ((List Int) × Unit))))))) (g2 : (Int × (Int × ((List Int) × (Int × (Int × ((List Int) × Unit)))))) → Option ((List Int) × Unit)) : Option ((List Int) × Unit) :=
 (if ((decide (x1.1 < x1.2.1)) = true) then (if ((decide ((0 : Int) ≤ x1.1)) = true) then (if ((decide (x1.1 < (((List.length x1.2.2.1) : Nat) : Int))) = true) then (if ((decide ((((List.length x1.2.2.2.2.2.1) + (List.length ((Int.tmod (Go.IntKind.wrap Go.IntKind.i64 ((Go.IntKind.wrap Go.IntKind.i64 ((List.getD x1.2.2.1 (Int.toNat x1.1) (0 : Int)) * x1.2.2.2.1)) + x1.2.2.2.2.1)) (1000000000 : Int)) :: ([] : List Int)))) * (8 : Nat)) ≤ (140737488355328 : Nat))) = true) then (g2 ((Go.IntKind.wrap Go.IntKind.i64 (x1.1 + (1 : Int))) , (x1.2.1 , (x1.2.2.1 , (x1.2.2.2.1 , ((Go.IntKind.wrap Go.IntKind.i64 (Int.tdiv (Go.IntKind.wrap Go.IntKind.i64 ((Go.IntKind.wrap Go.IntKind.i64 ((List.getD x1.2.2.1 (Int.toNat x1.1) (0 : Int)) * x1.2.2.2.1)) + x1.2.2.2.2.1)) (1000000000 : Int))) , ((x1.2.2.2.2.2.1 ++ ((Int.tmod (Go.IntKind.wrap Go.IntKind.i64 ((Go.IntKind.wrap Go.IntKind.i64 ((List.getD x1.2.2.1 (Int.toNat x1.1) (0 : Int)) * x1.2.2.2.1)) + x1.2.2.2.2.1)) (1000000000 : Int)) :: ([] : List Int))) , ())))))))
 else none)
 else none)
 else none)
 else (if ((decide (x1.2.2.2.2.1 > (0 : Int))) = true) then (if ((decide ((((List.length x1.2.2.2.2.2.1) + (List.length (x1.2.2.2.2.1 :: ([] : List Int)))) * (8 : Nat)) ≤ (140737488355328 : Nat))) = true) then (some ((x1.2.2.2.2.2.1 ++ (x1.2.2.2.2.1 :: ([] : List Int))) , ()))
 else none)
 else (some (x1.2.2.2.2.2.1 , ()))))
def P.s_l01ShortMul (k : Nat) (x : ((List Int) × (Int × Unit))) : (Option ((List Int) × Unit)) :=
 (if ((decide ((0 : Int) ≤ (Go.IntKind.wrap Go.IntKind.i64 ((((List.length x.1) : Nat) : Int) + (1 : Int))))) = true) then (if ((decide (((Go.IntKind.wrap Go.IntKind.i64 ((((List.length x.1) : Nat) : Int) + (1 : Int))) * (8 : Int)) ≤ (281474976710656 : Int))) = true) then (loopP (X := (Int × (Int × ((List Int) × (Int × (Int × ((List Int) × Unit))))))) (R := ((List Int) × Unit)) (P.s_l01ShortMul_b0 ) k ((0 : Int) , ((((List.length x.1) : Nat) : Int) , (x.1 , (x.2.1 , ((0 : Int) , ((seen (List.replicate (Int.toNat (Go.IntKind.wrap Go.IntKind.i64 ((((List.length x.1) : Nat) : Int) + (1 : Int)))) (0 : Int)) 0 (0 : Nat)) , ())))))))
 else none)
 else none)
def S.s_l01ShortMul (x : ((List Int) × (Int × Unit))) : (Option ((List Int) × Unit)) := if canon B10 x.1 = true ∧ 0 < x.2.1 ∧ x.2.1 ≤ 1000000000 ∧ x.1.length ≤ 1000000000000 then some (nd B10 (dval B10 x.1 * x.2.1.toNat), ()) else none
theorem S.s_l01ShortMul_ok (x : ((List Int) × (Int × Unit))) (r : _) (h : S.s_l01ShortMul x = some r) : ∃ k, P.s_l01ShortMul k x = some r := by
  obtain ⟨xs, b, u⟩ := x
  unfold S.s_l01ShortMul at h
  dsimp only at h
  split at h
  case isFalse => cases h
  rename_i hc
  obtain ⟨hcan, hb0, hb1, hl⟩ := hc
  have hd := canon_dig hcan
  cases h
  obtain ⟨d, rfl⟩ : ∃ d : Nat, b = (d : Int) := ⟨b.toNat, by omega⟩
  refine ⟨xs.length + 1, ?_⟩
  unfold P.s_l01ShortMul
  dsimp only
  rw [wr (by omega) (by omega)]
  have a1 : (0 : Int) ≤ (xs.length : Int) + 1 := by omega
  have a3 : ((xs.length : Int) + 1) * 8 ≤ 281474976710656 := by omega
  rw [if_pos (decide_eq_true a1), if_pos (decide_eq_true a3)]
  have e0 : seen (List.replicate ((xs.length : Int) + 1).toNat (0 : Int)) 0 (0 : Nat) = [] := by simp [seen]
  rw [e0, Int.toNat_natCast]
  have key := loop_up0 (k := xs.length + 1) (b := P.s_l01ShortMul_b0) (n := xs.length) (st := fun i => ((i : Int), (xs.length : Int), xs, (d : Int), ((mulUp B10 d xs i).2 : Int), (mulUp B10 d xs i).1, ())) (F := fun i => some (nd B10 (dval B10 xs * d), ())) (fun i g hi hg => by
    unfold P.s_l01ShortMul_b0
    dsimp only at hg ⊢
    obtain ⟨q1, q2, q3, q4⟩ := mulUp_ok (d := d) B10_le hd i (by omega)
    have e1 : (i : Int) < (xs.length : Int) := by omega
    have e2 : (0 : Int) ≤ (i : Int) := by omega
    simp only [e1, e2, decide_true, if_true]
    have hgD : xs.getD i 0 = xs[i] := by simp [hi]
    have hx := dig_get hd hi
    have hx1 : xs[i] < 1000000000 := hx.2
    have hx0 := hx.1
    rw [getD_cast xs i _ hi]
    rw [mulUp, hgD] at hg
    generalize hP : mulUp B10 d xs i = p at *
    obtain ⟨z, hz⟩ : ∃ z : Nat, xs[i] = (z : Int) := ⟨xs[i].toNat, (Int.toNat_of_nonneg hx0).symm⟩
    rw [hz] at hx1 hg ⊢
    rw [Int.toNat_natCast] at hg
    have hzd : z * d ≤ 999999999000000000 := Nat.mul_le_mul (show z ≤ 999999999 by omega) (show d ≤ 1000000000 by omega)
    have em : (z : Int) * (d : Int) = ((z * d : Nat) : Int) := (Int.natCast_mul _ _).symm
    rw [em, wr (x := ((z * d : Nat) : Int)) (by omega) (by omega), wr (x := ((z * d : Nat) : Int) + (p.2 : Int)) (by omega) (by omega)]
    have eT : Int.tdiv (((z * d : Nat) : Int) + (p.2 : Int)) 1000000000 = (((z * d + p.2) / B10 : Nat) : Int) := by
      rw [Int.tdiv_eq_ediv_of_nonneg (by omega)]
      show _ = (((z * d + p.2) / 1000000000 : Nat) : Int)
      omega
    have eM : Int.tmod (((z * d : Nat) : Int) + (p.2 : Int)) 1000000000 = (((z * d + p.2) % B10 : Nat) : Int) := by
      rw [Int.tmod_eq_emod_of_nonneg (by omega)]
      show _ = (((z * d + p.2) % 1000000000 : Nat) : Int)
      omega
    have hq : (z * d + p.2) / B10 ≤ 9223372036854775807 := Nat.le_trans (Nat.div_le_self _ _) (by omega)
    have hcap : (p.1.length + ([Int.tmod (((z * d : Nat) : Int) + (p.2 : Int)) 1000000000] : List Int).length) * 8 ≤ 140737488355328 := by
      rw [q2]; simp; omega
    rw [if_pos (decide_eq_true hcap), eT, eM, wr (x := (((z * d + p.2) / B10 : Nat) : Int)) (Int.le_trans (by decide) (Int.natCast_nonneg _)) (Int.ofNat_le.2 hq), wr (by omega) (by omega)]
    exact hg) (fun g => by
    unfold P.s_l01ShortMul_b0
    dsimp only
    obtain ⟨q1, q2, q3, q4⟩ := mulUp_ok (d := d) B10_le hd xs.length (Nat.le_refl _)
    rw [List.take_length] at q3
    generalize hP : mulUp B10 d xs xs.length = p at *
    rw [if_neg (by simp)]
    by_cases hz : p.2 = 0
    · rw [if_neg (by simp [hz])]
      rw [hz, Nat.mul_zero, Nat.add_zero] at q3
      rw [← q3]
      rcases List.eq_nil_or_concat p.1 with e | _
      · rw [e]
        show _ = some (nd B10 0, ())
        rw [nd_zero B10_le]
      · by_cases hx : xs = []
        · subst hx
          have : p.1 = [] := List.eq_nil_of_length_eq_zero q2
          rw [this]
          show _ = some (nd B10 0, ())
          rw [nd_zero B10_le]
        · have hpos : 0 < xs.length := List.length_pos_iff.2 hx
          have hv : dval B10 xs ≠ 0 := by
            intro q
            have := canon_eq hcan
            rw [q, nd_zero B10_le] at this
            exact hx this.symm
          have hlow := nd_low B10_le hv
          rw [canon_eq hcan] at hlow
          have hne : p.1 ≠ [] := by
            intro q
            rw [q] at q2
            simp at q2
            omega
          have hge : B10 ^ (p.1.length - 1) ≤ dval B10 p.1 := by
            rw [q2, q3]
            exact Nat.le_trans hlow (Nat.le_mul_of_pos_right _ (by omega))
          rw [nd_full B10_le q1 hne hge]
    · have e1 : (p.2 : Int) > 0 := by omega
      have hcap : (p.1.length + ([(p.2 : Int)] : List Int).length) * 8 ≤ 140737488355328 := by
        rw [q2]; simp; omega
      rw [if_pos (decide_eq_true e1), if_pos (decide_eq_true hcap), ← q3]
      have hlt : p.2 < B10 := by
        have h1 := dval_lt hd
        have h2 : B10 ^ xs.length * p.2 < B10 ^ xs.length * d := by
          have : dval B10 xs * d < B10 ^ xs.length * d := Nat.mul_lt_mul_of_pos_right h1 (by omega)
          omega
        have := Nat.lt_of_mul_lt_mul_left h2
        show p.2 < 1000000000
        omega
      have hdd : dig B10 (p.1 ++ [(p.2 : Int)]) = true := by
        rw [dig_append, q1, Bool.true_and, dig_cons]
        exact ⟨⟨Int.natCast_nonneg _, Int.ofNat_lt.2 hlt⟩, rfl⟩
      have := nd_snoc B10_le p.1 (p.2 : Int) hdd (by omega)
      rw [dval_append, q2] at this
      have e2 : dval B10 [(p.2 : Int)] = p.2 := by simp [dval]
      rw [e2] at this
      rw [this]) (by omega)
  exact key
abbrev P.s_l01ShortDiv_b0  (x1 : (Int × (Int × ((List Int) × ((List Int) × (Int × Unit)))))) (g2 : (Int × (Int × ((List Int) × ((List Int) × (Int × Unit))))) → Option (((List Int) × Int) × Unit)) : Option (((List Int) × Int) × Unit) :=
 (if ((decide (x1.1 ≥ (0 : Int))) = true) then (if ((decide ((0 : Int) ≤ x1.1)) = true) then (if ((decide (x1.1 < (((List.length x1.2.2.1) : Nat) : Int))) = true) then (if ((decide (x1.2.2.2.2.1 = (0 : Int))) = true) then none
 else (if ((decide ((0 : Int) ≤ x1.1)) = true) then (if ((decide (x1.1 < (((List.length x1.2.2.2.1) : Nat) : Int))) = true) then (if ((decide (x1.2.2.2.2.1 = (0 : Int))) = true) then none
 else (g2 ((Go.IntKind.wrap Go.IntKind.i64 (x1.1 - (1 : Int))) , ((Int.tmod (Go.IntKind.wrap Go.IntKind.i64 ((Go.IntKind.wrap Go.IntKind.i64 (x1.2.1 * (1000000000 : Int))) + (List.getD x1.2.2.1 (Int.toNat x1.1) (0 : Int)))) x1.2.2.2.2.1) , (x1.2.2.1 , ((List.set x1.2.2.2.1 ((0 : Nat) + (Int.toNat x1.1)) (Go.IntKind.wrap Go.IntKind.i64 (Int.tdiv (Go.IntKind.wrap Go.IntKind.i64 ((Go.IntKind.wrap Go.IntKind.i64 (x1.2.1 * (1000000000 : Int))) + (List.getD x1.2.2.1 (Int.toNat x1.1) (0 : Int)))) x1.2.2.2.2.1))) , (x1.2.2.2.2.1 , ())))))))
 else none)
 else none))
 else none)
 else none)
 else (Option.bind (S.s_l01Trim (x1.2.2.2.1 , ())) (fun (y3 : ((List Int) × Unit)) => (some ((y3.1 , x1.2.1) , ())))))
def P.s_l01ShortDiv (k : Nat) (x : ((List Int) × (Int × Unit))) : (Option (((List Int) × Int) × Unit)) :=
 (if ((decide ((0 : Int) ≤ (((List.length x.1) : Nat) : Int))) = true) then (if ((decide ((((List.length x.1) : Nat) : Int) ≤ (((List.length x.1) : Nat) : Int))) = true) then (if ((decide (((((List.length x.1) : Nat) : Int) * (8 : Int)) ≤ (281474976710656 : Int))) = true) then (loopP (X := (Int × (Int × ((List Int) × ((List Int) × (Int × Unit)))))) (R := (((List Int) × Int) × Unit)) (P.s_l01ShortDiv_b0 ) k ((Go.IntKind.wrap Go.IntKind.i64 ((((List.length x.1) : Nat) : Int) - (1 : Int))) , ((0 : Int) , (x.1 , ((List.replicate (Int.toNat (((List.length x.1) : Nat) : Int)) (0 : Int)) , (x.2.1 , ()))))))
 else none)
 else none)
 else none)
def S.s_l01ShortDiv (x : ((List Int) × (Int × Unit))) : (Option (((List Int) × Int) × Unit)) := if dig B10 x.1 = true ∧ 0 < x.2.1 ∧ x.2.1 < 1000000001 ∧ x.1.length ≤ 1000000000000 then some ((nd B10 (dval B10 x.1 / x.2.1.toNat), ((dval B10 x.1 % x.2.1.toNat : Nat) : Int)), ()) else none
theorem S.s_l01ShortDiv_ok (x : ((List Int) × (Int × Unit))) (r : _) (h : S.s_l01ShortDiv x = some r) : ∃ k, P.s_l01ShortDiv k x = some r := by
  obtain ⟨xs, b, u⟩ := x
  unfold S.s_l01ShortDiv at h
  dsimp only at h
  split at h
  case isFalse => cases h
  rename_i hc
  obtain ⟨hd, hb0, hb1, hl⟩ := hc
  cases h
  refine ⟨xs.length + 1, ?_⟩
  unfold P.s_l01ShortDiv
  dsimp only
  have a1 : (0 : Int) ≤ (xs.length : Int) := by omega
  have a2 : (xs.length : Int) ≤ (xs.length : Int) := by omega
  have a3 : (xs.length : Int) * 8 ≤ 281474976710656 := by omega
  simp only [a1, a2, a3, decide_true, if_true]
  rw [wr (by omega) (by omega), Int.toNat_natCast]
  have hdr : ∀ m, dig B10 (xs.drop m) = true := by
    intro m
    have := List.take_append_drop m xs
    have hd' := hd
    rw [← this, dig_append, Bool.and_eq_true] at hd'
    exact hd'.2
  have hbN : 0 < b.toNat := by omega
  have key := loop_up0 (k := xs.length + 1) (b := P.s_l01ShortDiv_b0) (n := xs.length) (st := fun j => ((xs.length : Int) - 1 - (j : Int), ((qdiv B10 b.toNat (xs.drop (xs.length - j))).2 : Int), xs, List.replicate (xs.length - j) (0 : Int) ++ (qdiv B10 b.toNat (xs.drop (xs.length - j))).1, b, ())) (F := fun j => some ((nd B10 (dval B10 xs / b.toNat), ((dval B10 xs % b.toNat : Nat) : Int)), ())) (fun j g hj hg => by
    unfold P.s_l01ShortDiv_b0
    dsimp only at hg ⊢
    obtain ⟨q1, q2, q3, q4⟩ := qdiv_ok B10 b.toNat hbN (xs.drop (xs.length - j)) (hdr _)
    have hi : xs.length - (j + 1) < xs.length := by omega
    have e5 : (xs.length : Int) - 1 - (j : Int) = ((xs.length - (j + 1) : Nat) : Int) := by omega
    have e6 : xs.drop (xs.length - (j + 1)) = xs[xs.length - (j + 1)] :: xs.drop (xs.length - j) := by
      rw [List.drop_eq_getElem_cons hi]
      congr 2
      omega
    have e7 : xs.length - j = (xs.length - (j + 1)) + 1 := by omega
    have hlen : (List.replicate (xs.length - j) (0 : Int) ++ (qdiv B10 b.toNat (xs.drop (xs.length - j))).1).length = xs.length := by
      rw [List.length_append, List.length_replicate, q2, List.length_drop]; omega
    have hx := dig_get hd hi
    have hx1 : xs[xs.length - (j + 1)] < 1000000000 := hx.2
    have hx0 := hx.1
    have hm : (qdiv B10 b.toNat (xs.drop (xs.length - j))).2 < b.toNat := by rw [q4]; exact Nat.mod_lt _ hbN
    rw [e6] at hg
    rw [hlen, e5, getD_cast xs _ _ hi]
    have a1 : ((xs.length - (j + 1) : Nat) : Int) ≥ 0 := by omega
    have a2 : (0 : Int) ≤ ((xs.length - (j + 1) : Nat) : Int) := by omega
    have a3 : ((xs.length - (j + 1) : Nat) : Int) < (xs.length : Int) := by omega
    have a4 : ¬ (b = 0) := by omega
    simp only [a1, a3, a4, decide_true, decide_false, if_true, if_false, Bool.false_eq_true]
    generalize hR : (qdiv B10 b.toNat (xs.drop (xs.length - j))).2 = R at *
    generalize hX : xs[xs.length - (j + 1)] = X at *
    have hRX : (R : Int) * 1000000000 + X < b * 1000000000 := by omega
    rw [wr (x := (R : Int) * 1000000000) (by omega) (by omega), wr (x := (R : Int) * 1000000000 + X) (by omega) (by omega)]
    have eT : Int.tdiv ((R : Int) * 1000000000 + X) b = (((R * B10 + X.toNat) / b.toNat : Nat) : Int) := by
      rw [Int.tdiv_eq_ediv_of_nonneg (by omega)]
      have : (R : Int) * 1000000000 + X = ((R * 1000000000 + X.toNat : Nat) : Int) := by omega
      rw [this]
      have hb : b = ((b.toNat : Nat) : Int) := by omega
      conv => lhs; rw [hb]
      exact (Int.natCast_ediv _ _).symm
    have eM : Int.tmod ((R : Int) * 1000000000 + X) b = (((R * B10 + X.toNat) % b.toNat : Nat) : Int) := by
      rw [Int.tmod_eq_emod_of_nonneg (by omega)]
      have : (R : Int) * 1000000000 + X = ((R * 1000000000 + X.toNat : Nat) : Int) := by omega
      rw [this]
      have hb : b = ((b.toNat : Nat) : Int) := by omega
      conv => lhs; rw [hb]
      exact (Int.natCast_emod _ _).symm
    have hQ : (R * B10 + X.toNat) / b.toNat < B10 := (Nat.div_lt_iff_lt_mul hbN).2 (by
      show R * 1000000000 + X.toNat < 1000000000 * b.toNat
      omega)
    have hQ' : (R * B10 + X.toNat) / b.toNat < 1000000000 := hQ
    have z0 : (0 : Int) ≤ (((R * B10 + X.toNat) / b.toNat : Nat) : Int) := Int.natCast_nonneg _
    have z1 : (((R * B10 + X.toNat) / b.toNat : Nat) : Int) < 1000000000 := Int.ofNat_lt.2 hQ'
    rw [eT, eM, wr (Int.le_trans (by decide) z0) (Int.le_of_lt (Int.lt_trans z1 (by decide))), wr (x := ((xs.length - (j + 1) : Nat) : Int) - 1) (by omega) (by omega), Nat.zero_add, Int.toNat_natCast]
    have hset : ∀ (Q : List Int) (v : Int), (List.replicate (xs.length - j) (0 : Int) ++ Q).set (xs.length - (j + 1)) v = List.replicate (xs.length - (j + 1)) 0 ++ v :: Q := by
      intro Q v
      rw [e7]
      exact set_back _ _ _
    rw [hset, ← hg]
    congr 1
    simp only [Prod.mk.injEq, qdiv]
    rw [hR]
    and_intros <;> first | rfl | omega | trivial) (fun g => by
    unfold P.s_l01ShortDiv_b0
    dsimp only
    obtain ⟨q1, q2, q3, q4⟩ := qdiv_ok B10 b.toNat hbN xs hd
    rw [if_neg (by simp; omega), Nat.sub_self, List.drop_zero, List.replicate_zero, List.nil_append, trim_s _ q1 (by omega), Option.bind_some, q3, q4]) (by omega)
  rw [show (xs.length : Int) - 1 - ((0 : Nat) : Int) = (xs.length : Int) - 1 by omega, Nat.sub_zero, List.drop_length] at key
  simpa [qdiv] using key
abbrev P.s_l01TakeOff_b0  (x1 : (Int × (Int × ((List Int) × ((List Int) × (Int × (Int × (Int × ((List Int) × Unit))))))))) (g2 : (Int × (Int × ((List Int) × ((List Int) × (Int × (Int × (Int × ((List Int) × Unit)))))))) → Option (Bool × ((List Int) × Unit))) : Option (Bool × ((List Int) × Unit)) :=
 (if ((decide (x1.1 < x1.2.1)) = true) then (if ((decide ((0 : Int) ≤ x1.1)) = true) then (if ((decide (x1.1 < (((List.length x1.2.2.1) : Nat) : Int))) = true) then (if ((decide ((0 : Int) ≤ (Go.IntKind.wrap Go.IntKind.i64 (x1.2.2.2.2.1 + x1.1)))) = true) then (if ((decide ((Go.IntKind.wrap Go.IntKind.i64 (x1.2.2.2.2.1 + x1.1)) < (((List.length x1.2.2.2.1) : Nat) : Int))) = true) then (if ((decide ((Go.IntKind.wrap Go.IntKind.i64 ((Go.IntKind.wrap Go.IntKind.i64 ((List.getD x1.2.2.2.1 ((0 : Nat) + (Int.toNat (Go.IntKind.wrap Go.IntKind.i64 (x1.2.2.2.2.1 + x1.1)))) (0 : Int)) - (Int.tmod (Go.IntKind.wrap Go.IntKind.i64 ((List.getD x1.2.2.1 (Int.toNat x1.1) (0 : Int)) * x1.2.2.2.2.2.1)) (1000000000 : Int)))) - x1.2.2.2.2.2.2.1)) < (0 : Int))) = true) then (if ((decide ((Go.IntKind.wrap Go.IntKind.i64 ((Go.IntKind.wrap Go.IntKind.i64 ((Go.IntKind.wrap Go.IntKind.i64 ((List.getD x1.2.2.2.1 ((0 : Nat) + (Int.toNat (Go.IntKind.wrap Go.IntKind.i64 (x1.2.2.2.2.1 + x1.1)))) (0 : Int)) - (Int.tmod (Go.IntKind.wrap Go.IntKind.i64 ((List.getD x1.2.2.1 (Int.toNat x1.1) (0 : Int)) * x1.2.2.2.2.2.1)) (1000000000 : Int)))) - x1.2.2.2.2.2.2.1)) + (1000000000 : Int))) < (0 : Int))) = true) then (if ((decide ((0 : Int) ≤ (Go.IntKind.wrap Go.IntKind.i64 (x1.2.2.2.2.1 + x1.1)))) = true) then (if ((decide ((Go.IntKind.wrap Go.IntKind.i64 (x1.2.2.2.2.1 + x1.1)) < (((List.length x1.2.2.2.1) : Nat) : Int))) = true) then (g2 ((Go.IntKind.wrap Go.IntKind.i64 (x1.1 + (1 : Int))) , (x1.2.1 , (x1.2.2.1 , ((List.set x1.2.2.2.1 ((0 : Nat) + (Int.toNat (Go.IntKind.wrap Go.IntKind.i64 (x1.2.2.2.2.1 + x1.1)))) (Go.IntKind.wrap Go.IntKind.i64 ((Go.IntKind.wrap Go.IntKind.i64 ((Go.IntKind.wrap Go.IntKind.i64 ((Go.IntKind.wrap Go.IntKind.i64 ((List.getD x1.2.2.2.1 ((0 : Nat) + (Int.toNat (Go.IntKind.wrap Go.IntKind.i64 (x1.2.2.2.2.1 + x1.1)))) (0 : Int)) - (Int.tmod (Go.IntKind.wrap Go.IntKind.i64 ((List.getD x1.2.2.1 (Int.toNat x1.1) (0 : Int)) * x1.2.2.2.2.2.1)) (1000000000 : Int)))) - x1.2.2.2.2.2.2.1)) + (1000000000 : Int))) + (1000000000 : Int)))) , (x1.2.2.2.2.1 , (x1.2.2.2.2.2.1 , ((Go.IntKind.wrap Go.IntKind.i64 ((Go.IntKind.wrap Go.IntKind.i64 ((Go.IntKind.wrap Go.IntKind.i64 (Int.tdiv (Go.IntKind.wrap Go.IntKind.i64 ((List.getD x1.2.2.1 (Int.toNat x1.1) (0 : Int)) * x1.2.2.2.2.2.1)) (1000000000 : Int))) + (1 : Int))) + (1 : Int))) , (x1.2.2.2.2.2.2.2.1 , ())))))))))
 else none)
 else none)
 else (if ((decide ((0 : Int) ≤ (Go.IntKind.wrap Go.IntKind.i64 (x1.2.2.2.2.1 + x1.1)))) = true) then (if ((decide ((Go.IntKind.wrap Go.IntKind.i64 (x1.2.2.2.2.1 + x1.1)) < (((List.length x1.2.2.2.1) : Nat) : Int))) = true) then (g2 ((Go.IntKind.wrap Go.IntKind.i64 (x1.1 + (1 : Int))) , (x1.2.1 , (x1.2.2.1 , ((List.set x1.2.2.2.1 ((0 : Nat) + (Int.toNat (Go.IntKind.wrap Go.IntKind.i64 (x1.2.2.2.2.1 + x1.1)))) (Go.IntKind.wrap Go.IntKind.i64 ((Go.IntKind.wrap Go.IntKind.i64 ((Go.IntKind.wrap Go.IntKind.i64 ((List.getD x1.2.2.2.1 ((0 : Nat) + (Int.toNat (Go.IntKind.wrap Go.IntKind.i64 (x1.2.2.2.2.1 + x1.1)))) (0 : Int)) - (Int.tmod (Go.IntKind.wrap Go.IntKind.i64 ((List.getD x1.2.2.1 (Int.toNat x1.1) (0 : Int)) * x1.2.2.2.2.2.1)) (1000000000 : Int)))) - x1.2.2.2.2.2.2.1)) + (1000000000 : Int)))) , (x1.2.2.2.2.1 , (x1.2.2.2.2.2.1 , ((Go.IntKind.wrap Go.IntKind.i64 ((Go.IntKind.wrap Go.IntKind.i64 (Int.tdiv (Go.IntKind.wrap Go.IntKind.i64 ((List.getD x1.2.2.1 (Int.toNat x1.1) (0 : Int)) * x1.2.2.2.2.2.1)) (1000000000 : Int))) + (1 : Int))) , (x1.2.2.2.2.2.2.2.1 , ())))))))))
 else none)
 else none))
 else (if ((decide ((0 : Int) ≤ (Go.IntKind.wrap Go.IntKind.i64 (x1.2.2.2.2.1 + x1.1)))) = true) then (if ((decide ((Go.IntKind.wrap Go.IntKind.i64 (x1.2.2.2.2.1 + x1.1)) < (((List.length x1.2.2.2.1) : Nat) : Int))) = true) then (g2 ((Go.IntKind.wrap Go.IntKind.i64 (x1.1 + (1 : Int))) , (x1.2.1 , (x1.2.2.1 , ((List.set x1.2.2.2.1 ((0 : Nat) + (Int.toNat (Go.IntKind.wrap Go.IntKind.i64 (x1.2.2.2.2.1 + x1.1)))) (Go.IntKind.wrap Go.IntKind.i64 ((Go.IntKind.wrap Go.IntKind.i64 ((List.getD x1.2.2.2.1 ((0 : Nat) + (Int.toNat (Go.IntKind.wrap Go.IntKind.i64 (x1.2.2.2.2.1 + x1.1)))) (0 : Int)) - (Int.tmod (Go.IntKind.wrap Go.IntKind.i64 ((List.getD x1.2.2.1 (Int.toNat x1.1) (0 : Int)) * x1.2.2.2.2.2.1)) (1000000000 : Int)))) - x1.2.2.2.2.2.2.1))) , (x1.2.2.2.2.1 , (x1.2.2.2.2.2.1 , ((Go.IntKind.wrap Go.IntKind.i64 (Int.tdiv (Go.IntKind.wrap Go.IntKind.i64 ((List.getD x1.2.2.1 (Int.toNat x1.1) (0 : Int)) * x1.2.2.2.2.2.1)) (1000000000 : Int))) , (x1.2.2.2.2.2.2.2.1 , ())))))))))
 else none)
 else none))
 else none)
 else none)
 else none)
 else none)
 else (if ((decide ((0 : Int) ≤ (Go.IntKind.wrap Go.IntKind.i64 (x1.2.2.2.2.1 + (((List.length x1.2.2.2.2.2.2.2.1) : Nat) : Int))))) = true) then (if ((decide ((Go.IntKind.wrap Go.IntKind.i64 (x1.2.2.2.2.1 + (((List.length x1.2.2.2.2.2.2.2.1) : Nat) : Int))) < (((List.length x1.2.2.2.1) : Nat) : Int))) = true) then (if ((decide ((0 : Int) ≤ (Go.IntKind.wrap Go.IntKind.i64 (x1.2.2.2.2.1 + (((List.length x1.2.2.2.2.2.2.2.1) : Nat) : Int))))) = true) then (if ((decide ((Go.IntKind.wrap Go.IntKind.i64 (x1.2.2.2.2.1 + (((List.length x1.2.2.2.2.2.2.2.1) : Nat) : Int))) < (((List.length x1.2.2.2.1) : Nat) : Int))) = true) then (if ((decide ((0 : Int) ≤ (Go.IntKind.wrap Go.IntKind.i64 (x1.2.2.2.2.1 + (((List.length x1.2.2.2.2.2.2.2.1) : Nat) : Int))))) = true) then (if ((decide ((Go.IntKind.wrap Go.IntKind.i64 (x1.2.2.2.2.1 + (((List.length x1.2.2.2.2.2.2.2.1) : Nat) : Int))) < (((List.length (List.set x1.2.2.2.1 ((0 : Nat) + (Int.toNat (Go.IntKind.wrap Go.IntKind.i64 (x1.2.2.2.2.1 + (((List.length x1.2.2.2.2.2.2.2.1) : Nat) : Int))))) (Go.IntKind.wrap Go.IntKind.i64 ((List.getD x1.2.2.2.1 ((0 : Nat) + (Int.toNat (Go.IntKind.wrap Go.IntKind.i64 (x1.2.2.2.2.1 + (((List.length x1.2.2.2.2.2.2.2.1) : Nat) : Int))))) (0 : Int)) - x1.2.2.2.2.2.2.1)))) : Nat) : Int))) = true) then (some ((decide ((List.getD (List.set x1.2.2.2.1 ((0 : Nat) + (Int.toNat (Go.IntKind.wrap Go.IntKind.i64 (x1.2.2.2.2.1 + (((List.length x1.2.2.2.2.2.2.2.1) : Nat) : Int))))) (Go.IntKind.wrap Go.IntKind.i64 ((List.getD x1.2.2.2.1 ((0 : Nat) + (Int.toNat (Go.IntKind.wrap Go.IntKind.i64 (x1.2.2.2.2.1 + (((List.length x1.2.2.2.2.2.2.2.1) : Nat) : Int))))) (0 : Int)) - x1.2.2.2.2.2.2.1))) ((0 : Nat) + (Int.toNat (Go.IntKind.wrap Go.IntKind.i64 (x1.2.2.2.2.1 + (((List.length x1.2.2.2.2.2.2.2.1) : Nat) : Int))))) (0 : Int)) < (0 : Int))) , ((List.set x1.2.2.2.1 ((0 : Nat) + (Int.toNat (Go.IntKind.wrap Go.IntKind.i64 (x1.2.2.2.2.1 + (((List.length x1.2.2.2.2.2.2.2.1) : Nat) : Int))))) (Go.IntKind.wrap Go.IntKind.i64 ((List.getD x1.2.2.2.1 ((0 : Nat) + (Int.toNat (Go.IntKind.wrap Go.IntKind.i64 (x1.2.2.2.2.1 + (((List.length x1.2.2.2.2.2.2.2.1) : Nat) : Int))))) (0 : Int)) - x1.2.2.2.2.2.2.1))) , ())))
 else none)
 else none)
 else none)
 else none)
 else none)
 else none))
def P.s_l01TakeOff (k : Nat) (x : ((List Int) × ((List Int) × (Int × (Int × Unit))))) : (Option (Bool × ((List Int) × Unit))) :=
 (loopP (X := (Int × (Int × ((List Int) × ((List Int) × (Int × (Int × (Int × ((List Int) × Unit))))))))) (R := (Bool × ((List Int) × Unit))) (P.s_l01TakeOff_b0 ) k ((0 : Int) , ((((List.length x.2.1) : Nat) : Int) , (x.2.1 , (x.1 , (x.2.2.1 , (x.2.2.2.1 , ((0 : Int) , (x.2.1 , ())))))))))
def S.s_l01TakeOff (x : ((List Int) × ((List Int) × (Int × (Int × Unit))))) : (Option (Bool × ((List Int) × Unit))) :=
  if 0 ≤ x.2.2.1 ∧ x.2.2.1.toNat + x.2.1.length < x.1.length ∧ dig B10 ((x.1.drop x.2.2.1.toNat).take x.2.1.length) = true ∧ dig B10 x.2.1 = true ∧ 0 ≤ x.1.getD (x.2.2.1.toNat + x.2.1.length) 0 ∧ x.1.getD (x.2.2.1.toNat + x.2.1.length) 0 ≤ 1000000000 ∧ 0 ≤ x.2.2.2.1 ∧ x.2.2.2.1 < 1000000000 ∧ x.1.length ≤ 1000000000000 then
    let T : Int := ((dval B10 ((x.1.drop x.2.2.1.toNat).take x.2.1.length) : Nat) : Int) + ((B10 ^ x.2.1.length : Nat) : Int) * x.1.getD (x.2.2.1.toNat + x.2.1.length) 0 - ((dval B10 x.2.1 * x.2.2.2.1.toNat : Nat) : Int)
    some (decide (T / ((B10 ^ x.2.1.length : Nat) : Int) < 0), (x.1.take x.2.2.1.toNat ++ fd B10 x.2.1.length (T % ((B10 ^ x.2.1.length : Nat) : Int)).toNat) ++ (T / ((B10 ^ x.2.1.length : Nat) : Int)) :: x.1.drop (x.2.2.1.toNat + x.2.1.length + 1), ())
  else none
theorem takeOff_main (us vs W : List Int) (j t : Nat) (hW : (us.drop j).take vs.length = W) (hl : j + vs.length < us.length) (hw : dig B10 W = true) (hv : dig B10 vs = true) (ht0 : 0 ≤ us.getD (j + vs.length) 0) (ht1 : us.getD (j + vs.length) 0 ≤ 1000000000) (hd1 : (t : Int) < 1000000000) (hbig : us.length ≤ 1000000000000) :
    P.s_l01TakeOff (vs.length + 1) (us, (vs, ((j : Int), ((t : Int), ())))) = some (decide (((((dval B10 W : Nat) : Int) + ((B10 ^ vs.length : Nat) : Int) * us.getD (j + vs.length) 0 - ((dval B10 vs * t : Nat) : Int)) / ((B10 ^ vs.length : Nat) : Int)) < 0), (us.take j ++ fd B10 vs.length ((((dval B10 W : Nat) : Int) + ((B10 ^ vs.length : Nat) : Int) * us.getD (j + vs.length) 0 - ((dval B10 vs * t : Nat) : Int)) % ((B10 ^ vs.length : Nat) : Int)).toNat) ++ ((((dval B10 W : Nat) : Int) + ((B10 ^ vs.length : Nat) : Int) * us.getD (j + vs.length) 0 - ((dval B10 vs * t : Nat) : Int)) / ((B10 ^ vs.length : Nat) : Int)) :: us.drop (j + vs.length + 1), ()) := by
  have hWg : ∀ i, i < vs.length → W.getD i 0 = us.getD (j + i) 0 := by
    intro i hi
    rw [← hW, win_getD hi]
  have hWl : W.length = vs.length := by rw [← hW]; simp; omega
  have htB : t < B10 := by show t < 1000000000; omega
  unfold P.s_l01TakeOff
  dsimp only
  have key := loop_up0 (k := vs.length + 1) (b := P.s_l01TakeOff_b0) (n := vs.length) (st := fun i => ((i : Int), (vs.length : Int), vs, (us.take j ++ (offUp B10 t W vs i).1) ++ us.drop (j + i), (j : Int), (t : Int), ((offUp B10 t W vs i).2 : Int), vs, ())) (F := fun i => some (decide (((((dval B10 W : Nat) : Int) + ((B10 ^ vs.length : Nat) : Int) * us.getD (j + vs.length) 0 - ((dval B10 vs * t : Nat) : Int)) / ((B10 ^ vs.length : Nat) : Int)) < 0), (us.take j ++ fd B10 vs.length ((((dval B10 W : Nat) : Int) + ((B10 ^ vs.length : Nat) : Int) * us.getD (j + vs.length) 0 - ((dval B10 vs * t : Nat) : Int)) % ((B10 ^ vs.length : Nat) : Int)).toNat) ++ ((((dval B10 W : Nat) : Int) + ((B10 ^ vs.length : Nat) : Int) * us.getD (j + vs.length) 0 - ((dval B10 vs * t : Nat) : Int)) / ((B10 ^ vs.length : Nat) : Int)) :: us.drop (j + vs.length + 1), ())) (fun i g hi hg => by
    unfold P.s_l01TakeOff_b0
    dsimp only at hg ⊢
    refine Eq.trans ?_ hg
    clear hg
    obtain ⟨q1, q2, q3, q4⟩ := offUp_ok (t := t) B10_le htB hw hv i
    have gx := dig_getD (B := B10) (by decide) hw i
    have gy := dig_getD (B := B10) (by decide) hv i
    have gx1 : W.getD i 0 < 1000000000 := gx.2
    have gy1 : vs.getD i 0 < 1000000000 := gy.2
    have gx0 := gx.1
    have gy0 := gy.1
    have hAl : (us.take j ++ (offUp B10 t W vs i).1).length = j + i := by rw [List.length_append, q2, List.length_take]; omega
    have hlen : ((us.take j ++ (offUp B10 t W vs i).1) ++ us.drop (j + i)).length = us.length := by rw [List.length_append, hAl, List.length_drop]; omega
    have e1 : (i : Int) < (vs.length : Int) := by omega
    have e2 : (0 : Int) ≤ (i : Int) := by omega
    have e3 : (0 : Int) ≤ ((j + i : Nat) : Int) := by omega
    have e4 : ((j + i : Nat) : Int) < (us.length : Int) := by omega
    rw [hlen, ← Int.natCast_add, wr (x := ((j + i : Nat) : Int)) (by omega) (by omega)]
    simp only [e1, e2, e3, e4, decide_true, if_true, Nat.zero_add, Int.toNat_natCast]
    rw [drop_cons_getD (xs := us) (i := j + i) (by omega), mid_get hAl]
    simp only [mid_set hAl]
    rw [← hWg i hi, offUp]
    dsimp only
    generalize W.getD i 0 = x at *
    generalize vs.getD i 0 = y at *
    generalize offUp B10 t W vs i = p at *
    obtain ⟨pl, c0⟩ := p
    dsimp only at *
    obtain ⟨Y, rfl⟩ : ∃ Y : Nat, y = (Y : Int) := ⟨y.toNat, by omega⟩
    rw [Int.toNat_natCast]
    have hYt : Y * t ≤ 999999999 * 999999999 := Nat.mul_le_mul (by omega) (by omega)
    rw [← Int.natCast_mul, wr (x := ((Y * t : Nat) : Int)) (by omega) (by omega), Int.tmod_eq_emod_of_nonneg (by omega), Int.tdiv_eq_ediv_of_nonneg (by omega)]
    generalize Y * t = m at *
    have e8 : ((m : Nat) : Int) % 1000000000 = ((m % B10 : Nat) : Int) := by
      show _ = ((m % 1000000000 : Nat) : Int)
      omega
    have e9 : ((m : Nat) : Int) / 1000000000 = ((m / B10 : Nat) : Int) := by
      show _ = ((m / 1000000000 : Nat) : Int)
      omega
    rw [e8, e9]
    have b1 : m % B10 < 1000000000 := Nat.mod_lt _ (by decide)
    have b2 : m / B10 ≤ 1000000000 := by
      show m / 1000000000 ≤ 1000000000
      omega
    generalize m % B10 = lo at *
    generalize m / B10 = hi' at *
    rw [wr (x := x - (lo : Int)) (by omega) (by omega), wr (x := x - (lo : Int) - (c0 : Int)) (by omega) (by omega), wr (x := x - (lo : Int) - (c0 : Int) + 1000000000) (by omega) (by omega), wr (x := x - (lo : Int) - (c0 : Int) + 1000000000 + 1000000000) (by omega) (by omega), wr (x := (hi' : Int)) (by omega) (by omega), wr (x := (hi' : Int) + 1) (by omega) (by omega), wr (x := (hi' : Int) + 1 + 1) (by omega) (by omega), wr (x := (i : Int) + 1) (by omega) (by omega)]
    have eB : ((B10 : Nat) : Int) = 1000000000 := rfl
    rw [eB, ← Nat.add_assoc j i 1, ← List.append_assoc (us.take j)]
    by_cases hn : x - (lo : Int) - (c0 : Int) < 0
    · rw [if_pos (decide_eq_true hn), if_pos hn]
      by_cases hn2 : x - (lo : Int) - (c0 : Int) + 1000000000 < 0
      · rw [if_pos (decide_eq_true hn2), if_pos hn2, show x - (lo : Int) - (c0 : Int) + 1000000000 + 1000000000 = (x - (lo : Int) - (c0 : Int)) % 1000000000 by omega]
        rfl
      · rw [if_neg (by simpa using hn2), if_neg hn2, show x - (lo : Int) - (c0 : Int) + 1000000000 = (x - (lo : Int) - (c0 : Int)) % 1000000000 by omega]
        rfl
    · rw [if_neg (by simpa using hn), if_neg hn]
      have e11 : (x - (lo : Int) - (c0 : Int)) % 1000000000 = x - (lo : Int) - (c0 : Int) := by omega
      rw [e11]
      rfl) (fun g => by
    unfold P.s_l01TakeOff_b0
    dsimp only
    obtain ⟨q1, q2, q3, q4⟩ := offUp_ok (t := t) B10_le htB hw hv vs.length
    rw [List.take_length, ← hWl, List.take_length, hWl] at q3
    have hAl : (us.take j ++ (offUp B10 t W vs vs.length).1).length = j + vs.length := by rw [List.length_append, q2, List.length_take]; omega
    have hlen : ((us.take j ++ (offUp B10 t W vs vs.length).1) ++ us.drop (j + vs.length)).length = us.length := by rw [List.length_append, hAl, List.length_drop]; omega
    have e3 : (0 : Int) ≤ ((j + vs.length : Nat) : Int) := by omega
    have e4 : ((j + vs.length : Nat) : Int) < (us.length : Int) := by omega
    have e5 : ¬ ((vs.length : Int) < (vs.length : Int)) := by omega
    rw [← Int.natCast_add, wr (x := ((j + vs.length : Nat) : Int)) (by omega) (by omega)]
    simp only [e3, e4, e5, decide_true, decide_false, if_true, Nat.zero_add, Int.toNat_natCast, List.length_set, hlen, Bool.false_eq_true, if_false]
    rw [drop_cons_getD (xs := us) (i := j + vs.length) (by omega), mid_get hAl, mid_set hAl, List.append_assoc _ [_], List.singleton_append, mid_get hAl]
    generalize offUp B10 t W vs vs.length = p at *
    obtain ⟨pl, c0⟩ := p
    dsimp only at *
    generalize us.getD (j + vs.length) 0 = top at *
    rw [wr (x := top - (c0 : Int)) (by omega) (by omega)]
    have hlt := dval_lt q1
    rw [q2] at hlt
    have eT : ((dval B10 W : Nat) : Int) + ((B10 ^ vs.length : Nat) : Int) * top - ((dval B10 vs * t : Nat) : Int) = ((dval B10 pl : Nat) : Int) + ((B10 ^ vs.length : Nat) : Int) * (top - (c0 : Int)) := by
      rw [Int.mul_sub, ← Int.natCast_mul]
      omega
    rw [eT, (ediv_top hlt _).1, (ediv_top hlt _).2, Int.toNat_natCast, ← fd_eq B10_le q1 q2 rfl]) (by omega)
  have e0 : (us.take j ++ (offUp B10 t W vs 0).1) ++ us.drop (j + 0) = us := by
    show (us.take j ++ []) ++ us.drop j = us
    rw [List.append_nil, List.take_append_drop]
  rw [e0] at key
  exact key
theorem S.s_l01TakeOff_ok (x : ((List Int) × ((List Int) × (Int × (Int × Unit))))) (r : _) (h : S.s_l01TakeOff x = some r) : ∃ k, P.s_l01TakeOff k x = some r := by
  obtain ⟨us, vs, j', d', u⟩ := x
  unfold S.s_l01TakeOff at h
  dsimp only at h
  split at h
  case isFalse => cases h
  rename_i hc
  obtain ⟨hj0, hl, hw, hv, ht0, ht1, hd0, hd1, hbig⟩ := hc
  obtain ⟨j, rfl⟩ : ∃ d : Nat, j' = (d : Int) := ⟨j'.toNat, by omega⟩
  obtain ⟨t, rfl⟩ : ∃ d : Nat, d' = (d : Int) := ⟨d'.toNat, by omega⟩
  refine ⟨vs.length + 1, ?_⟩
  rw [← h]
  exact takeOff_main us vs _ j t rfl hl hw hv ht0 ht1 hd1 hbig
abbrev P.s_l01PutBack_b0  (x1 : (Int × (Int × ((List Int) × ((List Int) × (Int × (Int × ((List Int) × Unit)))))))) (g2 : (Int × (Int × ((List Int) × ((List Int) × (Int × (Int × ((List Int) × Unit))))))) → Option (Unit × ((List Int) × Unit))) : Option (Unit × ((List Int) × Unit)) :=
 (if ((decide (x1.1 < x1.2.1)) = true) then (if ((decide ((0 : Int) ≤ x1.1)) = true) then (if ((decide (x1.1 < (((List.length x1.2.2.1) : Nat) : Int))) = true) then (if ((decide ((0 : Int) ≤ (Go.IntKind.wrap Go.IntKind.i64 (x1.2.2.2.2.1 + x1.1)))) = true) then (if ((decide ((Go.IntKind.wrap Go.IntKind.i64 (x1.2.2.2.2.1 + x1.1)) < (((List.length x1.2.2.2.1) : Nat) : Int))) = true) then (if ((decide ((0 : Int) ≤ (Go.IntKind.wrap Go.IntKind.i64 (x1.2.2.2.2.1 + x1.1)))) = true) then (if ((decide ((Go.IntKind.wrap Go.IntKind.i64 (x1.2.2.2.2.1 + x1.1)) < (((List.length x1.2.2.2.1) : Nat) : Int))) = true) then (g2 ((Go.IntKind.wrap Go.IntKind.i64 (x1.1 + (1 : Int))) , (x1.2.1 , (x1.2.2.1 , ((List.set x1.2.2.2.1 ((0 : Nat) + (Int.toNat (Go.IntKind.wrap Go.IntKind.i64 (x1.2.2.2.2.1 + x1.1)))) (Int.tmod (Go.IntKind.wrap Go.IntKind.i64 ((Go.IntKind.wrap Go.IntKind.i64 ((List.getD x1.2.2.2.1 ((0 : Nat) + (Int.toNat (Go.IntKind.wrap Go.IntKind.i64 (x1.2.2.2.2.1 + x1.1)))) (0 : Int)) + (List.getD x1.2.2.1 (Int.toNat x1.1) (0 : Int)))) + x1.2.2.2.2.2.1)) (1000000000 : Int))) , (x1.2.2.2.2.1 , ((Go.IntKind.wrap Go.IntKind.i64 (Int.tdiv (Go.IntKind.wrap Go.IntKind.i64 ((Go.IntKind.wrap Go.IntKind.i64 ((List.getD x1.2.2.2.1 ((0 : Nat) + (Int.toNat (Go.IntKind.wrap Go.IntKind.i64 (x1.2.2.2.2.1 + x1.1)))) (0 : Int)) + (List.getD x1.2.2.1 (Int.toNat x1.1) (0 : Int)))) + x1.2.2.2.2.2.1)) (1000000000 : Int))) , (x1.2.2.2.2.2.2.1 , ()))))))))
 else none)
 else none)
 else none)
 else none)
 else none)
 else none)
 else (if ((decide ((0 : Int) ≤ (Go.IntKind.wrap Go.IntKind.i64 (x1.2.2.2.2.1 + (((List.length x1.2.2.2.2.2.2.1) : Nat) : Int))))) = true) then (if ((decide ((Go.IntKind.wrap Go.IntKind.i64 (x1.2.2.2.2.1 + (((List.length x1.2.2.2.2.2.2.1) : Nat) : Int))) < (((List.length x1.2.2.2.1) : Nat) : Int))) = true) then (if ((decide ((0 : Int) ≤ (Go.IntKind.wrap Go.IntKind.i64 (x1.2.2.2.2.1 + (((List.length x1.2.2.2.2.2.2.1) : Nat) : Int))))) = true) then (if ((decide ((Go.IntKind.wrap Go.IntKind.i64 (x1.2.2.2.2.1 + (((List.length x1.2.2.2.2.2.2.1) : Nat) : Int))) < (((List.length x1.2.2.2.1) : Nat) : Int))) = true) then (some (() , ((List.set x1.2.2.2.1 ((0 : Nat) + (Int.toNat (Go.IntKind.wrap Go.IntKind.i64 (x1.2.2.2.2.1 + (((List.length x1.2.2.2.2.2.2.1) : Nat) : Int))))) (Go.IntKind.wrap Go.IntKind.i64 ((List.getD x1.2.2.2.1 ((0 : Nat) + (Int.toNat (Go.IntKind.wrap Go.IntKind.i64 (x1.2.2.2.2.1 + (((List.length x1.2.2.2.2.2.2.1) : Nat) : Int))))) (0 : Int)) + x1.2.2.2.2.2.1))) , ())))
 else none)
 else none)
 else none)
 else none))
def P.s_l01PutBack (k : Nat) (x : ((List Int) × ((List Int) × (Int × Unit)))) : (Option (Unit × ((List Int) × Unit))) :=
 (loopP (X := (Int × (Int × ((List Int) × ((List Int) × (Int × (Int × ((List Int) × Unit)))))))) (R := (Unit × ((List Int) × Unit))) (P.s_l01PutBack_b0 ) k ((0 : Int) , ((((List.length x.2.1) : Nat) : Int) , (x.2.1 , (x.1 , (x.2.2.1 , ((0 : Int) , (x.2.1 , ()))))))))
def S.s_l01PutBack (x : ((List Int) × ((List Int) × (Int × Unit)))) : (Option (Unit × ((List Int) × Unit))) :=
  if 0 ≤ x.2.2.1 ∧ x.2.2.1.toNat + x.2.1.length < x.1.length ∧ dig B10 ((x.1.drop x.2.2.1.toNat).take x.2.1.length) = true ∧ dig B10 x.2.1 = true ∧ -1000000000 ≤ x.1.getD (x.2.2.1.toNat + x.2.1.length) 0 ∧ x.1.getD (x.2.2.1.toNat + x.2.1.length) 0 ≤ 1000000000 ∧ x.1.length ≤ 1000000000000 then
    let T : Int := ((dval B10 ((x.1.drop x.2.2.1.toNat).take x.2.1.length) : Nat) : Int) + ((B10 ^ x.2.1.length : Nat) : Int) * x.1.getD (x.2.2.1.toNat + x.2.1.length) 0 + ((dval B10 x.2.1 : Nat) : Int)
    some ((), (x.1.take x.2.2.1.toNat ++ fd B10 x.2.1.length (T % ((B10 ^ x.2.1.length : Nat) : Int)).toNat) ++ (T / ((B10 ^ x.2.1.length : Nat) : Int)) :: x.1.drop (x.2.2.1.toNat + x.2.1.length + 1), ())
  else none
theorem putBack_main (us vs W : List Int) (j : Nat) (hW : (us.drop j).take vs.length = W) (hl : j + vs.length < us.length) (hw : dig B10 W = true) (hv : dig B10 vs = true) (ht0 : -1000000000 ≤ us.getD (j + vs.length) 0) (ht1 : us.getD (j + vs.length) 0 ≤ 1000000000) (hbig : us.length ≤ 1000000000000) :
    P.s_l01PutBack (vs.length + 1) (us, (vs, ((j : Int), ()))) = some ((), (us.take j ++ fd B10 vs.length ((((dval B10 W : Nat) : Int) + ((B10 ^ vs.length : Nat) : Int) * us.getD (j + vs.length) 0 + ((dval B10 vs : Nat) : Int)) % ((B10 ^ vs.length : Nat) : Int)).toNat) ++ ((((dval B10 W : Nat) : Int) + ((B10 ^ vs.length : Nat) : Int) * us.getD (j + vs.length) 0 + ((dval B10 vs : Nat) : Int)) / ((B10 ^ vs.length : Nat) : Int)) :: us.drop (j + vs.length + 1), ()) := by
  have hWg : ∀ i, i < vs.length → W.getD i 0 = us.getD (j + i) 0 := by
    intro i hi
    rw [← hW, win_getD hi]
  have hWl : W.length = vs.length := by rw [← hW]; simp; omega
  unfold P.s_l01PutBack
  dsimp only
  have key := loop_up0 (k := vs.length + 1) (b := P.s_l01PutBack_b0) (n := vs.length) (st := fun i => ((i : Int), (vs.length : Int), vs, (us.take j ++ (addUp B10 W vs i).1) ++ us.drop (j + i), (j : Int), ((addUp B10 W vs i).2 : Int), vs, ())) (F := fun i => some ((), (us.take j ++ fd B10 vs.length ((((dval B10 W : Nat) : Int) + ((B10 ^ vs.length : Nat) : Int) * us.getD (j + vs.length) 0 + ((dval B10 vs : Nat) : Int)) % ((B10 ^ vs.length : Nat) : Int)).toNat) ++ ((((dval B10 W : Nat) : Int) + ((B10 ^ vs.length : Nat) : Int) * us.getD (j + vs.length) 0 + ((dval B10 vs : Nat) : Int)) / ((B10 ^ vs.length : Nat) : Int)) :: us.drop (j + vs.length + 1), ())) (fun i g hi hg => by
    unfold P.s_l01PutBack_b0
    dsimp only at hg ⊢
    refine Eq.trans ?_ hg
    clear hg
    obtain ⟨q1, q2, q3, q4⟩ := addUp_ok B10_le hw hv i
    have gx := dig_getD (B := B10) (by decide) hw i
    have gy := dig_getD (B := B10) (by decide) hv i
    have gx1 : W.getD i 0 < 1000000000 := gx.2
    have gy1 : vs.getD i 0 < 1000000000 := gy.2
    have gx0 := gx.1
    have gy0 := gy.1
    have hAl : (us.take j ++ (addUp B10 W vs i).1).length = j + i := by rw [List.length_append, q2, List.length_take]; omega
    have hlen : ((us.take j ++ (addUp B10 W vs i).1) ++ us.drop (j + i)).length = us.length := by rw [List.length_append, hAl, List.length_drop]; omega
    have e1 : (i : Int) < (vs.length : Int) := by omega
    have e2 : (0 : Int) ≤ (i : Int) := by omega
    have e3 : (0 : Int) ≤ ((j + i : Nat) : Int) := by omega
    have e4 : ((j + i : Nat) : Int) < (us.length : Int) := by omega
    rw [hlen, ← Int.natCast_add, wr (x := ((j + i : Nat) : Int)) (by omega) (by omega)]
    simp only [e1, e2, e3, e4, decide_true, if_true, Nat.zero_add, Int.toNat_natCast]
    rw [drop_cons_getD (xs := us) (i := j + i) (by omega), mid_get hAl]
    simp only [mid_set hAl]
    rw [← hWg i hi, addUp]
    dsimp only
    generalize W.getD i 0 = x at *
    generalize vs.getD i 0 = y at *
    generalize addUp B10 W vs i = p at *
    obtain ⟨pl, c0⟩ := p
    dsimp only at *
    obtain ⟨X, rfl⟩ : ∃ Y : Nat, x = (Y : Int) := ⟨x.toNat, by omega⟩
    obtain ⟨Y, rfl⟩ : ∃ Y : Nat, y = (Y : Int) := ⟨y.toNat, by omega⟩
    rw [Int.toNat_natCast, Int.toNat_natCast]
    rw [wr (x := (X : Int) + (Y : Int)) (by omega) (by omega), wr (x := (X : Int) + (Y : Int) + (c0 : Int)) (by omega) (by omega), Int.tmod_eq_emod_of_nonneg (by omega), Int.tdiv_eq_ediv_of_nonneg (by omega)]
    have e8 : ((X : Int) + (Y : Int) + (c0 : Int)) % 1000000000 = (((c0 + X + Y) % B10 : Nat) : Int) := by
      show _ = (((c0 + X + Y) % 1000000000 : Nat) : Int)
      omega
    have e9 : ((X : Int) + (Y : Int) + (c0 : Int)) / 1000000000 = (((c0 + X + Y) / B10 : Nat) : Int) := by
      show _ = (((c0 + X + Y) / 1000000000 : Nat) : Int)
      omega
    have b2 : (c0 + X + Y) / B10 ≤ 1000000000 := by
      show (c0 + X + Y) / 1000000000 ≤ 1000000000
      omega
    rw [e8, e9, wr (x := (((c0 + X + Y) / B10 : Nat) : Int)) (by omega) (by omega), wr (x := (i : Int) + 1) (by omega) (by omega), ← Nat.add_assoc j i 1, ← List.append_assoc (us.take j)]
    rfl) (fun g => by
    unfold P.s_l01PutBack_b0
    dsimp only
    obtain ⟨q1, q2, q3, q4⟩ := addUp_ok B10_le hw hv vs.length
    rw [List.take_length, ← hWl, List.take_length, hWl] at q3
    have hAl : (us.take j ++ (addUp B10 W vs vs.length).1).length = j + vs.length := by rw [List.length_append, q2, List.length_take]; omega
    have hlen : ((us.take j ++ (addUp B10 W vs vs.length).1) ++ us.drop (j + vs.length)).length = us.length := by rw [List.length_append, hAl, List.length_drop]; omega
    have e3 : (0 : Int) ≤ ((j + vs.length : Nat) : Int) := by omega
    have e4 : ((j + vs.length : Nat) : Int) < (us.length : Int) := by omega
    have e5 : ¬ ((vs.length : Int) < (vs.length : Int)) := by omega
    rw [← Int.natCast_add, wr (x := ((j + vs.length : Nat) : Int)) (by omega) (by omega)]
    simp only [e3, e4, e5, decide_true, decide_false, if_true, Nat.zero_add, Int.toNat_natCast, hlen, Bool.false_eq_true, if_false]
    rw [drop_cons_getD (xs := us) (i := j + vs.length) (by omega), mid_get hAl, mid_set hAl, List.append_assoc _ [_], List.singleton_append]
    generalize addUp B10 W vs vs.length = p at *
    obtain ⟨pl, c0⟩ := p
    dsimp only at *
    generalize us.getD (j + vs.length) 0 = top at *
    rw [wr (x := top + (c0 : Int)) (by omega) (by omega)]
    have hlt := dval_lt q1
    rw [q2] at hlt
    have eT : ((dval B10 W : Nat) : Int) + ((B10 ^ vs.length : Nat) : Int) * top + ((dval B10 vs : Nat) : Int) = ((dval B10 pl : Nat) : Int) + ((B10 ^ vs.length : Nat) : Int) * (top + (c0 : Int)) := by
      rw [Int.mul_add, ← Int.natCast_mul]
      omega
    rw [eT, (ediv_top hlt _).1, (ediv_top hlt _).2, Int.toNat_natCast, ← fd_eq B10_le q1 q2 rfl]) (by omega)
  have e0 : (us.take j ++ (addUp B10 W vs 0).1) ++ us.drop (j + 0) = us := by
    show (us.take j ++ []) ++ us.drop j = us
    rw [List.append_nil, List.take_append_drop]
  rw [e0] at key
  exact key
theorem S.s_l01PutBack_ok (x : ((List Int) × ((List Int) × (Int × Unit)))) (r : _) (h : S.s_l01PutBack x = some r) : ∃ k, P.s_l01PutBack k x = some r := by
  obtain ⟨us, vs, j', u⟩ := x
  unfold S.s_l01PutBack at h
  dsimp only at h
  split at h
  case isFalse => cases h
  rename_i hc
  obtain ⟨hj0, hl, hw, hv, ht0, ht1, hbig⟩ := hc
  obtain ⟨j, rfl⟩ : ∃ d : Nat, j' = (d : Int) := ⟨j'.toNat, by omega⟩
  refine ⟨vs.length + 1, ?_⟩
  rw [← h]
  exact putBack_main us vs _ j rfl hl hw hv ht0 ht1 hbig
end Go.Cm
end
