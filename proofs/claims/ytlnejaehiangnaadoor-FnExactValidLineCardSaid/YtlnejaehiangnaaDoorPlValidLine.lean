import Derived.Test.YtlnejaehiangnaaDoorPlValidLineb
set_option linter.unusedVariables false
set_option maxRecDepth 100000
noncomputable section
namespace Go.Cm
abbrev P.i_readNat_b7 (g5 : ((ByteArray × ((List Int) × Unit)) → (Option (((List Int) × Bool) × Unit)))) (x8 : (Int × (Int × (Int × ((List Int) × (Int × (ByteArray × (Int × Unit)))))))) (g9 : (Int × (Int × (Int × ((List Int) × (Int × (ByteArray × (Int × Unit))))))) → Option (((List Int) × Bool) × Unit)) : Option (((List Int) × Bool) × Unit) :=
 (if ((decide (x8.1 < x8.2.1)) = true) then (g9 ((Go.IntKind.wrap Go.IntKind.i64 (x8.1 + (1 : Int))) , (x8.2.1 , ((Go.IntKind.wrap Go.IntKind.u64 (x8.2.2.1 * (10 : Int))) , (x8.2.2.2.1 , (x8.2.2.2.2.1 , (x8.2.2.2.2.2.1 , (x8.2.2.2.2.2.2.1 , ()))))))))
 else (Option.bind (S.i_natOf (x8.2.2.1 , ())) (fun (y10 : ((List Int) × Unit)) => (Option.bind (S.i_nat_mul (x8.2.2.2.1 , (y10.1 , ()))) (fun (y11 : ((List Int) × Unit)) => (Option.bind (S.i_natOf (x8.2.2.2.2.1 , ())) (fun (y12 : ((List Int) × Unit)) => (Option.bind (S.i_nat_add (y11.1 , (y12.1 , ()))) (fun (y13 : ((List Int) × Unit)) => (if ((decide ((0 : Int) ≤ (((ByteArray.size x8.2.2.2.2.2.1) : Nat) : Int))) = true) then (if ((decide ((((ByteArray.size x8.2.2.2.2.2.1) : Nat) : Int) ≤ (((ByteArray.size x8.2.2.2.2.2.1) : Nat) : Int))) = true) then (if ((decide ((0 : Int) ≤ x8.2.2.2.2.2.2.1)) = true) then (if ((decide (x8.2.2.2.2.2.2.1 ≤ (((ByteArray.size x8.2.2.2.2.2.1) : Nat) : Int))) = true) then (g5 ((ByteArray.extract x8.2.2.2.2.2.1 (Int.toNat x8.2.2.2.2.2.2.1) (Int.toNat (((ByteArray.size x8.2.2.2.2.2.1) : Nat) : Int))) , (y13.1 , ())))
 else none)
 else none)
 else none)
 else none))))))))))
abbrev P.i_readNat_b15 (g5 : ((ByteArray × ((List Int) × Unit)) → (Option (((List Int) × Bool) × Unit)))) (x16 : (Int × (Int × (Int × ((List Int) × (Int × (ByteArray × (Int × Unit)))))))) (g17 : (Int × (Int × (Int × ((List Int) × (Int × (ByteArray × (Int × Unit))))))) → Option (((List Int) × Bool) × Unit)) : Option (((List Int) × Bool) × Unit) :=
 (if ((decide (x16.1 < x16.2.1)) = true) then (g17 ((Go.IntKind.wrap Go.IntKind.i64 (x16.1 + (1 : Int))) , (x16.2.1 , ((Go.IntKind.wrap Go.IntKind.u64 (x16.2.2.1 * (10 : Int))) , (x16.2.2.2.1 , (x16.2.2.2.2.1 , (x16.2.2.2.2.2.1 , (x16.2.2.2.2.2.2.1 , ()))))))))
 else (Option.bind (S.i_natOf (x16.2.2.1 , ())) (fun (y18 : ((List Int) × Unit)) => (Option.bind (S.i_nat_mul (x16.2.2.2.1 , (y18.1 , ()))) (fun (y19 : ((List Int) × Unit)) => (Option.bind (S.i_natOf (x16.2.2.2.2.1 , ())) (fun (y20 : ((List Int) × Unit)) => (Option.bind (S.i_nat_add (y19.1 , (y20.1 , ()))) (fun (y21 : ((List Int) × Unit)) => (if ((decide ((0 : Int) ≤ (((ByteArray.size x16.2.2.2.2.2.1) : Nat) : Int))) = true) then (if ((decide ((((ByteArray.size x16.2.2.2.2.2.1) : Nat) : Int) ≤ (((ByteArray.size x16.2.2.2.2.2.1) : Nat) : Int))) = true) then (if ((decide ((0 : Int) ≤ x16.2.2.2.2.2.2.1)) = true) then (if ((decide (x16.2.2.2.2.2.2.1 ≤ (((ByteArray.size x16.2.2.2.2.2.1) : Nat) : Int))) = true) then (g5 ((ByteArray.extract x16.2.2.2.2.2.1 (Int.toNat x16.2.2.2.2.2.2.1) (Int.toNat (((ByteArray.size x16.2.2.2.2.2.1) : Nat) : Int))) , (y21.1 , ())))
 else none)
 else none)
 else none)
 else none))))))))))
abbrev P.i_readNat_b3 (k : Nat) (x4 : (ByteArray × ((List Int) × Unit))) (g5 : (ByteArray × ((List Int) × Unit)) → Option (((List Int) × Bool) × Unit)) : Option (((List Int) × Bool) × Unit) :=
 (if ((!((ByteArray.toList x4.1) == (ByteArray.toList (bs [])))) = true) then (if (((Int.tmod (((ByteArray.size x4.1) : Nat) : Int) (9 : Int)) == (0 : Int)) = true) then (if ((decide ((9 : Int) ≤ (((ByteArray.size x4.1) : Nat) : Int))) = true) then (Option.bind (S.strconv_ParseUint ((ByteArray.extract x4.1 (0 : Nat) (9 : Nat)) , ((10 : Int) , ((64 : Int) , ())))) (fun (y6 : ((Int × Bool) × Unit)) => (loopP (X := (Int × (Int × (Int × ((List Int) × (Int × (ByteArray × (Int × Unit)))))))) (R := (((List Int) × Bool) × Unit)) (P.i_readNat_b7 g5) k ((0 : Int) , ((9 : Int) , ((1 : Int) , (x4.2.1 , (y6.1.1 , (x4.1 , ((9 : Int) , ()))))))))))
 else none)
 else (if ((decide ((0 : Int) ≤ (Int.tmod (((ByteArray.size x4.1) : Nat) : Int) (9 : Int)))) = true) then (if ((decide ((Int.tmod (((ByteArray.size x4.1) : Nat) : Int) (9 : Int)) ≤ (((ByteArray.size x4.1) : Nat) : Int))) = true) then (if ((decide ((0 : Int) ≤ (Int.tmod (((ByteArray.size x4.1) : Nat) : Int) (9 : Int)))) = true) then (Option.bind (S.strconv_ParseUint ((ByteArray.extract x4.1 (0 : Nat) (Int.toNat (Int.tmod (((ByteArray.size x4.1) : Nat) : Int) (9 : Int)))) , ((10 : Int) , ((64 : Int) , ())))) (fun (y14 : ((Int × Bool) × Unit)) => (loopP (X := (Int × (Int × (Int × ((List Int) × (Int × (ByteArray × (Int × Unit)))))))) (R := (((List Int) × Bool) × Unit)) (P.i_readNat_b15 g5) k ((0 : Int) , ((Int.tmod (((ByteArray.size x4.1) : Nat) : Int) (9 : Int)) , ((1 : Int) , (x4.2.1 , (y14.1.1 , (x4.1 , ((Int.tmod (((ByteArray.size x4.1) : Nat) : Int) (9 : Int)) , ()))))))))))
 else none)
 else none)
 else none))
 else (some ((x4.2.1 , true) , ())))
abbrev P.i_readNat_b0 (k : Nat) (x1 : (Int × (Int × (ByteArray × ((List Int) × Unit))))) (g2 : (Int × (Int × (ByteArray × ((List Int) × Unit)))) → Option (((List Int) × Bool) × Unit)) : Option (((List Int) × Bool) × Unit) :=
 (if ((decide (x1.1 < x1.2.1)) = true) then (if ((decide ((0 : Int) ≤ x1.1)) = true) then (if ((decide (x1.1 < (((ByteArray.size x1.2.2.1) : Nat) : Int))) = true) then (if ((decide ((byteAt x1.2.2.1 x1.1) < (48 : Int))) = true) then (some ((([] : List Int) , false) , ()))
 else (if ((decide ((0 : Int) ≤ x1.1)) = true) then (if ((decide (x1.1 < (((ByteArray.size x1.2.2.1) : Nat) : Int))) = true) then (if ((decide ((byteAt x1.2.2.1 x1.1) > (57 : Int))) = true) then (some ((([] : List Int) , false) , ()))
 else (g2 ((Go.IntKind.wrap Go.IntKind.i64 (x1.1 + (1 : Int))) , (x1.2.1 , (x1.2.2.1 , (x1.2.2.2.1 , ()))))))
 else none)
 else none))
 else none)
 else none)
 else (loopP (X := (ByteArray × ((List Int) × Unit))) (R := (((List Int) × Bool) × Unit)) (P.i_readNat_b3 k) k (x1.2.2.1 , (x1.2.2.2.1 , ()))))
abbrev P.i_readNat_b29 (g27 : ((ByteArray × ((List Int) × Unit)) → (Option (((List Int) × Bool) × Unit)))) (x30 : (Int × (Int × (Int × ((List Int) × (Int × (ByteArray × (Int × Unit)))))))) (g31 : (Int × (Int × (Int × ((List Int) × (Int × (ByteArray × (Int × Unit))))))) → Option (((List Int) × Bool) × Unit)) : Option (((List Int) × Bool) × Unit) :=
 (if ((decide (x30.1 < x30.2.1)) = true) then (g31 ((Go.IntKind.wrap Go.IntKind.i64 (x30.1 + (1 : Int))) , (x30.2.1 , ((Go.IntKind.wrap Go.IntKind.u64 (x30.2.2.1 * (10 : Int))) , (x30.2.2.2.1 , (x30.2.2.2.2.1 , (x30.2.2.2.2.2.1 , (x30.2.2.2.2.2.2.1 , ()))))))))
 else (Option.bind (S.i_natOf (x30.2.2.1 , ())) (fun (y32 : ((List Int) × Unit)) => (Option.bind (S.i_nat_mul (x30.2.2.2.1 , (y32.1 , ()))) (fun (y33 : ((List Int) × Unit)) => (Option.bind (S.i_natOf (x30.2.2.2.2.1 , ())) (fun (y34 : ((List Int) × Unit)) => (Option.bind (S.i_nat_add (y33.1 , (y34.1 , ()))) (fun (y35 : ((List Int) × Unit)) => (if ((decide ((0 : Int) ≤ (((ByteArray.size x30.2.2.2.2.2.1) : Nat) : Int))) = true) then (if ((decide ((((ByteArray.size x30.2.2.2.2.2.1) : Nat) : Int) ≤ (((ByteArray.size x30.2.2.2.2.2.1) : Nat) : Int))) = true) then (if ((decide ((0 : Int) ≤ x30.2.2.2.2.2.2.1)) = true) then (if ((decide (x30.2.2.2.2.2.2.1 ≤ (((ByteArray.size x30.2.2.2.2.2.1) : Nat) : Int))) = true) then (g27 ((ByteArray.extract x30.2.2.2.2.2.1 (Int.toNat x30.2.2.2.2.2.2.1) (Int.toNat (((ByteArray.size x30.2.2.2.2.2.1) : Nat) : Int))) , (y35.1 , ())))
 else none)
 else none)
 else none)
 else none))))))))))
abbrev P.i_readNat_b37 (g27 : ((ByteArray × ((List Int) × Unit)) → (Option (((List Int) × Bool) × Unit)))) (x38 : (Int × (Int × (Int × ((List Int) × (Int × (ByteArray × (Int × Unit)))))))) (g39 : (Int × (Int × (Int × ((List Int) × (Int × (ByteArray × (Int × Unit))))))) → Option (((List Int) × Bool) × Unit)) : Option (((List Int) × Bool) × Unit) :=
 (if ((decide (x38.1 < x38.2.1)) = true) then (g39 ((Go.IntKind.wrap Go.IntKind.i64 (x38.1 + (1 : Int))) , (x38.2.1 , ((Go.IntKind.wrap Go.IntKind.u64 (x38.2.2.1 * (10 : Int))) , (x38.2.2.2.1 , (x38.2.2.2.2.1 , (x38.2.2.2.2.2.1 , (x38.2.2.2.2.2.2.1 , ()))))))))
 else (Option.bind (S.i_natOf (x38.2.2.1 , ())) (fun (y40 : ((List Int) × Unit)) => (Option.bind (S.i_nat_mul (x38.2.2.2.1 , (y40.1 , ()))) (fun (y41 : ((List Int) × Unit)) => (Option.bind (S.i_natOf (x38.2.2.2.2.1 , ())) (fun (y42 : ((List Int) × Unit)) => (Option.bind (S.i_nat_add (y41.1 , (y42.1 , ()))) (fun (y43 : ((List Int) × Unit)) => (if ((decide ((0 : Int) ≤ (((ByteArray.size x38.2.2.2.2.2.1) : Nat) : Int))) = true) then (if ((decide ((((ByteArray.size x38.2.2.2.2.2.1) : Nat) : Int) ≤ (((ByteArray.size x38.2.2.2.2.2.1) : Nat) : Int))) = true) then (if ((decide ((0 : Int) ≤ x38.2.2.2.2.2.2.1)) = true) then (if ((decide (x38.2.2.2.2.2.2.1 ≤ (((ByteArray.size x38.2.2.2.2.2.1) : Nat) : Int))) = true) then (g27 ((ByteArray.extract x38.2.2.2.2.2.1 (Int.toNat x38.2.2.2.2.2.2.1) (Int.toNat (((ByteArray.size x38.2.2.2.2.2.1) : Nat) : Int))) , (y43.1 , ())))
 else none)
 else none)
 else none)
 else none))))))))))
abbrev P.i_readNat_b25 (k : Nat) (x26 : (ByteArray × ((List Int) × Unit))) (g27 : (ByteArray × ((List Int) × Unit)) → Option (((List Int) × Bool) × Unit)) : Option (((List Int) × Bool) × Unit) :=
 (if ((!((ByteArray.toList x26.1) == (ByteArray.toList (bs [])))) = true) then (if (((Int.tmod (((ByteArray.size x26.1) : Nat) : Int) (9 : Int)) == (0 : Int)) = true) then (if ((decide ((9 : Int) ≤ (((ByteArray.size x26.1) : Nat) : Int))) = true) then (Option.bind (S.strconv_ParseUint ((ByteArray.extract x26.1 (0 : Nat) (9 : Nat)) , ((10 : Int) , ((64 : Int) , ())))) (fun (y28 : ((Int × Bool) × Unit)) => (loopP (X := (Int × (Int × (Int × ((List Int) × (Int × (ByteArray × (Int × Unit)))))))) (R := (((List Int) × Bool) × Unit)) (P.i_readNat_b29 g27) k ((0 : Int) , ((9 : Int) , ((1 : Int) , (x26.2.1 , (y28.1.1 , (x26.1 , ((9 : Int) , ()))))))))))
 else none)
 else (if ((decide ((0 : Int) ≤ (Int.tmod (((ByteArray.size x26.1) : Nat) : Int) (9 : Int)))) = true) then (if ((decide ((Int.tmod (((ByteArray.size x26.1) : Nat) : Int) (9 : Int)) ≤ (((ByteArray.size x26.1) : Nat) : Int))) = true) then (if ((decide ((0 : Int) ≤ (Int.tmod (((ByteArray.size x26.1) : Nat) : Int) (9 : Int)))) = true) then (Option.bind (S.strconv_ParseUint ((ByteArray.extract x26.1 (0 : Nat) (Int.toNat (Int.tmod (((ByteArray.size x26.1) : Nat) : Int) (9 : Int)))) , ((10 : Int) , ((64 : Int) , ())))) (fun (y36 : ((Int × Bool) × Unit)) => (loopP (X := (Int × (Int × (Int × ((List Int) × (Int × (ByteArray × (Int × Unit)))))))) (R := (((List Int) × Bool) × Unit)) (P.i_readNat_b37 g27) k ((0 : Int) , ((Int.tmod (((ByteArray.size x26.1) : Nat) : Int) (9 : Int)) , ((1 : Int) , (x26.2.1 , (y36.1.1 , (x26.1 , ((Int.tmod (((ByteArray.size x26.1) : Nat) : Int) (9 : Int)) , ()))))))))))
 else none)
 else none)
 else none))
 else (some ((x26.2.1 , true) , ())))
abbrev P.i_readNat_b22 (k : Nat) (x23 : (Int × (Int × (ByteArray × ((List Int) × Unit))))) (g24 : (Int × (Int × (ByteArray × ((List Int) × Unit)))) → Option (((List Int) × Bool) × Unit)) : Option (((List Int) × Bool) × Unit) :=
 (if ((decide (x23.1 < x23.2.1)) = true) then (if ((decide ((0 : Int) ≤ x23.1)) = true) then (if ((decide (x23.1 < (((ByteArray.size x23.2.2.1) : Nat) : Int))) = true) then (if ((decide ((byteAt x23.2.2.1 x23.1) < (48 : Int))) = true) then (some ((([] : List Int) , false) , ()))
 else (if ((decide ((0 : Int) ≤ x23.1)) = true) then (if ((decide (x23.1 < (((ByteArray.size x23.2.2.1) : Nat) : Int))) = true) then (if ((decide ((byteAt x23.2.2.1 x23.1) > (57 : Int))) = true) then (some ((([] : List Int) , false) , ()))
 else (g24 ((Go.IntKind.wrap Go.IntKind.i64 (x23.1 + (1 : Int))) , (x23.2.1 , (x23.2.2.1 , (x23.2.2.2.1 , ()))))))
 else none)
 else none))
 else none)
 else none)
 else (loopP (X := (ByteArray × ((List Int) × Unit))) (R := (((List Int) × Bool) × Unit)) (P.i_readNat_b25 k) k (x23.2.2.1 , (x23.2.2.2.1 , ()))))
def P.i_readNat (k : Nat) (x : (ByteArray × Unit)) : (Option (((List Int) × Bool) × Unit)) :=
 (if (((ByteArray.toList x.1) == (ByteArray.toList (bs []))) = true) then (some ((([] : List Int) , false) , ()))
 else (if ((decide ((((ByteArray.size x.1) : Nat) : Int) > (200 : Int))) = true) then (some ((([] : List Int) , false) , ()))
 else (if ((decide ((0 : Int) < (((ByteArray.size x.1) : Nat) : Int))) = true) then (if (((byteAt x.1 (0 : Int)) == (48 : Int)) = true) then (if ((decide ((((ByteArray.size x.1) : Nat) : Int) > (1 : Int))) = true) then (some ((([] : List Int) , false) , ()))
 else (loopP (X := (Int × (Int × (ByteArray × ((List Int) × Unit))))) (R := (((List Int) × Bool) × Unit)) (P.i_readNat_b0 k) k ((0 : Int) , ((((ByteArray.size x.1) : Nat) : Int) , (x.1 , (([] : List Int) , ()))))))
 else (loopP (X := (Int × (Int × (ByteArray × ((List Int) × Unit))))) (R := (((List Int) × Bool) × Unit)) (P.i_readNat_b22 k) k ((0 : Int) , ((((ByteArray.size x.1) : Nat) : Int) , (x.1 , (([] : List Int) , ()))))))
 else none)))
theorem rn_len {p m : Nat} (h : p < 10 ^ m) : (nd B32 p).length ≤ m := by
  rw [nd_len B32_le]
  exact Nat.lt_of_lt_of_le h (Nat.pow_le_pow_left (by decide) _)
theorem rn_times (g : ((ByteArray × ((List Int) × Unit)) → (Option (((List Int) × Bool) × Unit)))) (t : ByteArray) (p v n : Nat) (hn : n ≤ 9) (hv : v < 10 ^ n) (hp : p < 10 ^ 200) (hnl : n ≤ t.size) (K : Nat) (hK : n < K) :
    loopP (P.i_readNat_b7 g) K ((0 : Int), ((n : Int), ((1 : Int), (nd B32 p, ((v : Int), (t, ((n : Int), ()))))))) = g (ByteArray.extract t n t.size, (nd B32 (p * 10 ^ n + v), ())) := by
  have hp9 : 10 ^ n ≤ 10 ^ 9 := Nat.pow_le_pow_right (by decide) hn
  have h9 : (10 : Nat) ^ 9 = 1000000000 := by decide
  have key := loop_up0 (k := K) (b := P.i_readNat_b7 g) (n := n) (st := fun i => ((i : Int), (n : Int), ((10 ^ i : Nat) : Int), nd B32 p, (v : Int), t, (n : Int), ())) (F := fun i => g (ByteArray.extract t n t.size, (nd B32 (p * 10 ^ n + v), ()))) (fun i g' hi hg' => by
    unfold P.i_readNat_b7
    dsimp only at hg' ⊢
    refine Eq.trans ?_ hg'
    have e1 : (i : Int) < (n : Int) := by omega
    have hpi : 10 ^ (i + 1) ≤ 10 ^ 9 := Nat.pow_le_pow_right (by decide) (by omega)
    rw [Nat.pow_succ] at hpi ⊢
    rw [if_pos (decide_eq_true e1), wr (by omega) (by omega), show ((10 ^ i : Nat) : Int) * 10 = ((10 ^ i * 10 : Nat) : Int) by omega, wu (by omega) (by omega)]
    rfl) (fun g' => by
    unfold P.i_readNat_b7
    dsimp only
    rw [if_neg (by simp)]
    unfold S.i_natOf S.i_nat_mul S.i_nat_add
    dsimp only
    have hl1 := rn_len hp
    have hl2 := rn_len (p := 10 ^ n) (m := 10) (by omega)
    have hl3 : (nd B32 (p * 10 ^ n)).length ≤ 209 := rn_len (by
      have : p * 10 ^ n < 10 ^ 200 * 10 ^ 9 := Nat.mul_lt_mul_of_lt_of_le hp hp9 (Nat.pow_pos (by decide))
      rwa [← Nat.pow_add] at this)
    have hl4 := rn_len (p := v) (m := 9) (by omega)
    rw [if_pos ⟨by omega, by omega⟩, Option.bind_some, Int.toNat_natCast]
    dsimp only
    rw [if_pos ⟨dig_nd B32_le _, dig_nd B32_le _, by omega, by omega⟩, Option.bind_some, if_pos ⟨by omega, by omega⟩, Option.bind_some, Int.toNat_natCast]
    dsimp only
    rw [dval_nd B32_le, dval_nd B32_le, if_pos ⟨dig_nd B32_le _, dig_nd B32_le _, by omega, by omega⟩, Option.bind_some, dval_nd B32_le, dval_nd B32_le]
    have c1 : (0 : Int) ≤ (t.size : Int) := by omega
    have c2 : (0 : Int) ≤ (n : Int) := by omega
    have c3 : (n : Int) ≤ (t.size : Int) := by omega
    rw [if_pos (decide_eq_true c1), if_pos (decide_eq_true (Int.le_refl _)), if_pos (decide_eq_true c2), if_pos (decide_eq_true c3), Int.toNat_natCast, Int.toNat_natCast]) hK
  exact key
theorem rn_loop (K : Nat) (hK : 10 ≤ K) (m : Nat) : ∀ (t : ByteArray) (p k : Nat), t.data.toList.length = m → allD t.data.toList = true → m ≤ 200 → p < 10 ^ (200 - m) → m < k →
    loopP (P.i_readNat_b3 K) k (t, (nd B32 p, ())) = some ((nd B32 (p * 10 ^ m + dv t.data.toList), true), ()) := by
  induction m using Nat.strongRecOn with
  | ind m ih =>
    intro t p k hm hd hm2 hp hk
    obtain ⟨k, rfl⟩ : ∃ j, k = j + 1 := ⟨k - 1, by omega⟩
    rw [loopP_succ]
    have hs : t.size = t.data.toList.length := by rw [Array.length_toList]; rfl
    have hstep : ∀ n : Nat, 0 < n → n ≤ 9 → n ≤ m → Option.bind (S.strconv_ParseUint (ByteArray.extract t 0 n, (10, (64, ())))) (fun (y6 : ((Int × Bool) × Unit)) => (Go.Cm.loopP (P.i_readNat_b7 (loopP (P.i_readNat_b3 K) k)) K ((0 : Int) , ((n : Int) , ((1 : Int) , (nd B32 p , (y6.1.1 , (t , ((n : Int) , ()))))))))) = some ((nd B32 (p * 10 ^ m + dv t.data.toList), true), ()) := by
      intro n hn0 hn9 hnm
      have hx : (ByteArray.extract t 0 n).data.toList = t.data.toList.take n := by rw [ext_list, List.drop_zero]
      have hxl : (t.data.toList.take n).length = n := by simp; omega
      have hxs : (ByteArray.extract t 0 n).size = n := by
        have : (ByteArray.extract t 0 n).size = (ByteArray.extract t 0 n).data.toList.length := by rw [Array.length_toList]; rfl
        rw [this, hx, hxl]
      have hdx := allD_take hd n
      have hpar := parse_dv (t.data.toList.take n) hdx (by intro q; rw [q] at hxl; simp at hxl; omega) (by omega)
      unfold S.strconv_ParseUint
      dsimp only
      rw [if_pos ⟨rfl, rfl, by omega⟩, hx, hpar, Option.bind_some]
      dsimp only
      have hv := dv_lt hdx
      rw [hxl] at hv
      have hp200 : p < 10 ^ 200 := Nat.lt_of_lt_of_le hp (Nat.pow_le_pow_right (by decide) (by omega))
      rw [rn_times _ t p _ n hn9 hv hp200 (by omega) K (by omega)]
      have hd2 : (ByteArray.extract t n t.size).data.toList = t.data.toList.drop n := by
        rw [ext_list, List.take_of_length_le (by omega)]
      have hl2 : (t.data.toList.drop n).length = m - n := by simp; omega
      have hb : p * 10 ^ n + dv (t.data.toList.take n) < 10 ^ (200 - (m - n)) := by
        have h1 : (p + 1) * 10 ^ n ≤ 10 ^ (200 - m) * 10 ^ n := Nat.mul_le_mul_right _ hp
        rw [← Nat.pow_add, show 200 - m + n = 200 - (m - n) by omega, Nat.add_mul, Nat.one_mul] at h1
        omega
      rw [ih (m - n) (by omega) _ _ k (by rw [hd2, hl2]) (by rw [hd2]; exact allD_drop hd n) (by omega) hb (by omega), hd2]
      have h3 := dv_append (t.data.toList.take n) (t.data.toList.drop n)
      rw [List.take_append_drop, hl2] at h3
      rw [h3, Nat.add_mul, Nat.mul_assoc, ← Nat.pow_add, show n + (m - n) = m by omega, Nat.add_assoc]
    generalize loopP (P.i_readNat_b3 K) k = G at hstep ⊢
    unfold P.i_readNat_b3
    dsimp only
    have hbs : ByteArray.toList (bs []) = [] := by rw [ByteArray.toList_eq]; rfl
    rw [hbs, ByteArray.toList_eq, hs, hm]
    by_cases h0 : m = 0
    · subst h0
      have : t.data.toList = [] := List.eq_nil_of_length_eq_zero hm
      rw [this, if_neg (by simp), Nat.pow_zero, Nat.mul_one, show dv [] = 0 from rfl, Nat.add_zero]
    · have hne : t.data.toList ≠ [] := by
        intro q
        rw [q] at hm
        simp at hm
        omega
      have hmod : Int.tmod (m : Int) 9 = ((m % 9 : Nat) : Int) := by
        rw [Int.tmod_eq_emod_of_nonneg (by omega)]
        omega
      rw [if_pos (by simpa using hne), hmod]
      by_cases h9 : m % 9 = 0
      · have c1 : (9 : Int) ≤ (m : Int) := by omega
        rw [if_pos (by simp [h9]), if_pos (decide_eq_true c1)]
        exact hstep 9 (by omega) (by omega) (by omega)
      · have c1 : (0 : Int) ≤ ((m % 9 : Nat) : Int) := by omega
        have c2 : ((m % 9 : Nat) : Int) ≤ (m : Int) := by omega
        rw [if_neg (by simp; omega), if_pos (decide_eq_true c1), if_pos (decide_eq_true c2), if_pos (decide_eq_true c1), Int.toNat_natCast]
        exact hstep (m % 9) (by omega) (by omega) (by omega)
theorem rn_scan (b : Nat → (Int × (Int × (ByteArray × ((List Int) × Unit)))) → ((Int × (Int × (ByteArray × ((List Int) × Unit)))) → Option (((List Int) × Bool) × Unit)) → Option (((List Int) × Bool) × Unit)) (hbb : b = P.i_readNat_b0) (t : ByteArray) (hl : t.data.toList.length ≤ 200) (K : Nat) (hK : 300 ≤ K) :
    loopP (b K) K ((0 : Int), ((t.size : Int), (t, ([], ())))) = some (if allD t.data.toList = true then (nd B32 (dv t.data.toList), true) else ([], false), ()) := by
  subst hbb
  have hs : t.size = t.data.toList.length := by rw [Array.length_toList]; rfl
  rw [hs]
  have hloop := rn_loop K (by omega) t.data.toList.length t 0 K rfl
  generalize hL : t.data.toList = l at *
  have key : ∀ d i k : Nat, i + d = l.length → d < k → allD (l.take i) = true → loopP (P.i_readNat_b0 K) k ((i : Int), ((l.length : Int), (t, (([] : List Int), ())))) = some (if allD l = true then (nd B32 (dv l), true) else ([], false), ()) := by
    intro d
    induction d with
    | zero =>
      intro i k hi hk hd
      obtain ⟨k, rfl⟩ : ∃ j, k = j + 1 := ⟨k - 1, by omega⟩
      have : i = l.length := by omega
      subst this
      rw [List.take_length] at hd
      rw [loopP_succ]
      unfold P.i_readNat_b0
      dsimp only
      rw [if_neg (by simp), if_pos hd]
      have := hloop hd hl (Nat.pow_pos (by decide)) (by omega)
      rw [nd_zero B32_le, Nat.zero_mul, Nat.zero_add] at this
      exact this
    | succ d ih =>
      intro i k hi hk hd
      obtain ⟨k, rfl⟩ : ∃ j, k = j + 1 := ⟨k - 1, by omega⟩
      have hil : i < l.length := by omega
      rw [loopP_succ]
      unfold P.i_readNat_b0
      dsimp only
      have e1 : (i : Int) < (l.length : Int) := by omega
      have e2 : (0 : Int) ≤ (i : Int) := by omega
      have hb : byteAt t (i : Int) = (l[i].toNat : Int) := by
        unfold byteAt
        rw [hL, getD_cast l i _ hil]
      have ha2 : allD (l.take (i + 1)) = (allD (l.take i) && isD l[i]) := by
        rw [← List.take_append_getElem hil, allD_append]
        simp [allD]
      have ha3 : allD l = true → isD l[i] = true := fun q => decide_eq_true (allD_get q hil)
      rw [hs, hb, wr (x := (i : Int) + 1) (by omega) (by omega)]
      simp only [e1, e2, decide_true, if_true]
      by_cases c1 : 48 ≤ l[i].toNat
      · rw [if_neg (by simp; omega)]
        by_cases c2 : l[i].toNat ≤ 57
        · have : isD l[i] = true := decide_eq_true ⟨c1, c2⟩
          rw [this, Bool.and_true] at ha2
          rw [if_neg (by simp; omega)]
          exact ih (i + 1) k (by omega) (by omega) (by rw [ha2]; exact hd)
        · have : isD l[i] = false := decide_eq_false (fun q => c2 q.2)
          rw [if_pos (decide_eq_true (by omega)), if_neg (fun q => by rw [ha3 q] at this; cases this)]
      · have : isD l[i] = false := decide_eq_false (fun q => c1 q.1)
        rw [if_pos (decide_eq_true (by omega)), if_neg (fun q => by rw [ha3 q] at this; cases this)]
  exact key l.length 0 K (by omega) (by omega) rfl
def S.i_readNat (x : (ByteArray × Unit)) : (Option (((List Int) × Bool) × Unit)) := some (if okN x.1.data.toList = true then (nd B32 (dv x.1.data.toList), true) else ([], false), ())
theorem S.i_readNat_ok (x : (ByteArray × Unit)) (r : _) (h : S.i_readNat x = some r) : ∃ k, P.i_readNat k x = some r := by
  obtain ⟨t, u⟩ := x
  unfold S.i_readNat at h
  dsimp only at h
  refine ⟨300, ?_⟩
  rw [← h]
  unfold P.i_readNat
  dsimp only
  have hs : t.size = t.data.toList.length := by rw [Array.length_toList]; rfl
  have hbs : ByteArray.toList (bs []) = [] := by rw [ByteArray.toList_eq]; rfl
  rw [hbs, ByteArray.toList_eq]
  have hscan := rn_scan P.i_readNat_b0 rfl t
  have hscan2 := rn_scan P.i_readNat_b22 rfl t
  unfold okN okR
  by_cases h1 : t.data.toList = []
  · rw [h1, if_pos (by rfl)]
    rfl
  · have hpos : 0 < t.data.toList.length := List.length_pos_iff.2 h1
    rw [if_neg (by simpa using h1), decide_eq_true h1, Bool.true_and, hs]
    by_cases h2 : t.data.toList.length ≤ 200
    · have d2 : ¬ (t.data.toList.length : Int) > 200 := by omega
      have d3 : (0 : Int) < (t.data.toList.length : Int) := by omega
      rw [if_neg (by simpa using d2), if_pos (decide_eq_true d3), decide_eq_true h2, Bool.true_and]
      have s1 := hscan h2 300 (by omega)
      have s2 := hscan2 h2 300 (by omega)
      rw [hs] at s1 s2
      have hb : byteAt t 0 = (t.data.toList[0].toNat : Int) := by
        exact congrArg (fun c : UInt8 => (c.toNat : Int)) (getD_cast t.data.toList 0 0 hpos)
      have hh : t.data.toList.head? = some t.data.toList[0] := by
        generalize t.data.toList = l at *
        cases l with
        | nil => simp at h1
        | cons c r => rfl
      rw [hb, hh]
      by_cases c1 : t.data.toList[0] = 48
      · rw [c1, if_pos (by rfl)]
        by_cases h3 : t.data.toList.length = 1
        · have d4 : ¬ (t.data.toList.length : Int) > 1 := by omega
          rw [if_neg (by simpa using d4), s1, decide_eq_true h3, Bool.true_or, Bool.and_true]
        · have d4 : (t.data.toList.length : Int) > 1 := by omega
          rw [if_pos (decide_eq_true d4), decide_eq_false h3, Bool.false_or, decide_eq_false (by simp), Bool.and_false, if_neg (by simp)]
      · have c2 : ¬ ((t.data.toList[0].toNat : Int) = 48) := by
          intro q
          apply c1
          apply UInt8.toNat_inj.1
          show _ = 48
          omega
        rw [if_neg (by simpa using c2), s2, decide_eq_true (p := some t.data.toList[0] ≠ some 48) (by simpa using c1), Bool.or_true, Bool.and_true]
    · have d2 : (t.data.toList.length : Int) > 200 := by omega
      rw [if_pos (decide_eq_true d2), decide_eq_false h2, Bool.false_and, Bool.and_false, if_neg (by simp)]
def P.i_readRat (k : Nat) (x : (ByteArray × Unit)) : (Option (((Bool × ((List Int) × (List Int))) × Bool) × Unit)) :=
 (Option.bind (S.strings_Cut (x.1 , ((bs [47]) , ()))) (fun (y0 : ((ByteArray × (ByteArray × Bool)) × Unit)) => (Option.bind (S.strings_CutPrefix (y0.1.1 , ((bs [45]) , ()))) (fun (y1 : ((ByteArray × Bool) × Unit)) => (Option.bind (S.i_readNat (y1.1.1 , ())) (fun (y2 : (((List Int) × Bool) × Unit)) => (if ((!y2.1.2) = true) then (some (((false , (([] : List Int) , ([] : List Int))) , false) , ()))
 else (if (y1.1.2 = true) then (if (((((List.length y2.1.1) : Nat) : Int) == (0 : Int)) = true) then (some (((false , (([] : List Int) , ([] : List Int))) , false) , ()))
 else (Option.bind (S.i_natOf ((1 : Int) , ())) (fun (y3 : ((List Int) × Unit)) => (if ((!y0.1.2.2) = true) then (some (((y1.1.2 , (y2.1.1 , y3.1)) , true) , ()))
 else (Option.bind (S.i_readNat (y0.1.2.1 , ())) (fun (y4 : (((List Int) × Bool) × Unit)) => (if ((!y4.1.2) = true) then (some (((false , (([] : List Int) , ([] : List Int))) , false) , ()))
 else (Option.bind (S.i_natOf ((1 : Int) , ())) (fun (y5 : ((List Int) × Unit)) => (Option.bind (S.i_nat_cmp (y4.1.1 , (y5.1 , ()))) (fun (y6 : (Int × Unit)) => (if ((decide (y6.1 ≤ (0 : Int))) = true) then (some (((false , (([] : List Int) , ([] : List Int))) , false) , ()))
 else (Option.bind (S.i_nat_gcd (y2.1.1 , (y4.1.1 , ()))) (fun (y7 : ((List Int) × Unit)) => (Option.bind (S.i_natOf ((1 : Int) , ())) (fun (y8 : ((List Int) × Unit)) => (Option.bind (S.i_nat_cmp (y7.1 , (y8.1 , ()))) (fun (y9 : (Int × Unit)) => (if ((y9.1 != (0 : Int)) = true) then (some (((false , (([] : List Int) , ([] : List Int))) , false) , ()))
 else (some (((y1.1.2 , (y2.1.1 , y4.1.1)) , true) , ())))))))))))))))))))))
 else (Option.bind (S.i_natOf ((1 : Int) , ())) (fun (y10 : ((List Int) × Unit)) => (if ((!y0.1.2.2) = true) then (some (((y1.1.2 , (y2.1.1 , y10.1)) , true) , ()))
 else (Option.bind (S.i_readNat (y0.1.2.1 , ())) (fun (y11 : (((List Int) × Bool) × Unit)) => (if ((!y11.1.2) = true) then (some (((false , (([] : List Int) , ([] : List Int))) , false) , ()))
 else (Option.bind (S.i_natOf ((1 : Int) , ())) (fun (y12 : ((List Int) × Unit)) => (Option.bind (S.i_nat_cmp (y11.1.1 , (y12.1 , ()))) (fun (y13 : (Int × Unit)) => (if ((decide (y13.1 ≤ (0 : Int))) = true) then (some (((false , (([] : List Int) , ([] : List Int))) , false) , ()))
 else (Option.bind (S.i_nat_gcd (y2.1.1 , (y11.1.1 , ()))) (fun (y14 : ((List Int) × Unit)) => (Option.bind (S.i_natOf ((1 : Int) , ())) (fun (y15 : ((List Int) × Unit)) => (Option.bind (S.i_nat_cmp (y14.1 , (y15.1 , ()))) (fun (y16 : (Int × Unit)) => (if ((y16.1 != (0 : Int)) = true) then (some (((false , (([] : List Int) , ([] : List Int))) , false) , ()))
 else (some (((y1.1.2 , (y2.1.1 , y11.1.1)) , true) , ()))))))))))))))))))))))))))))
def S.i_readRat (x : (ByteArray × Unit)) : (Option (((Bool × ((List Int) × (List Int))) × Bool) × Unit)) := if x.1.size < 4294967281 then some ((rp B32 (rdRat x.1.data.toList).1, (rdRat x.1.data.toList).2), ()) else none
theorem rr_bad : ((false, (([] : List Int), ([] : List Int))), false) = (rp B32 noQ.1, noQ.2) := by
  unfold noQ rp
  dsimp only
  rw [nd_zero B32_le]
theorem natOf_one : S.i_natOf (1, ()) = some (nd B32 1, ()) := by
  unfold S.i_natOf
  rfl
/-- What follows the first number. -/
theorem rr_rest (neg : Bool) (c : List UInt8 × List UInt8 × Bool) (hok : okN c.1 = true) (hn : ¬ (neg = true ∧ dv c.1 = 0)) :
    (Option.bind (S.i_natOf ((1 : Int) , ())) (fun (y10 : ((List Int) × Unit)) => (if ((!c.2.2) = true) then (some (((neg , (nd B32 (dv c.1) , y10.1)) , true) , ()))
 else (Option.bind (S.i_readNat ((⟨c.2.1.toArray⟩ : ByteArray) , ())) (fun (y11 : (((List Int) × Bool) × Unit)) => (if ((!y11.1.2) = true) then (some (((false , (([] : List Int) , ([] : List Int))) , false) , ()))
 else (Option.bind (S.i_natOf ((1 : Int) , ())) (fun (y12 : ((List Int) × Unit)) => (Option.bind (S.i_nat_cmp (y11.1.1 , (y12.1 , ()))) (fun (y13 : (Int × Unit)) => (if ((decide (y13.1 ≤ (0 : Int))) = true) then (some (((false , (([] : List Int) , ([] : List Int))) , false) , ()))
 else (Option.bind (S.i_nat_gcd (nd B32 (dv c.1) , (y11.1.1 , ()))) (fun (y14 : ((List Int) × Unit)) => (Option.bind (S.i_natOf ((1 : Int) , ())) (fun (y15 : ((List Int) × Unit)) => (Option.bind (S.i_nat_cmp (y14.1 , (y15.1 , ()))) (fun (y16 : (Int × Unit)) => (if ((y16.1 != (0 : Int)) = true) then (some (((false , (([] : List Int) , ([] : List Int))) , false) , ()))
 else (some (((neg , (nd B32 (dv c.1) , y11.1.1)) , true) , ())))))))))))))))))))) = some ((rp B32 (rdBody neg c).1, (rdBody neg c).2), ()) := by
  have hbody : rdBody neg c = (if c.2.2 = true then (if okN c.2.1 = true ∧ 1 < dv c.2.1 ∧ Nat.gcd (dv c.1) (dv c.2.1) = 1 then ((neg, (dv c.1, dv c.2.1)), true) else noQ) else ((neg, (dv c.1, 1)), true)) := if_pos ⟨hok, hn⟩
  rw [natOf_one, Option.bind_some, rr_bad, hbody]
  obtain ⟨a, b, f⟩ := c
  dsimp only at *
  cases f
  · rfl
  · rw [if_neg (by decide), if_pos rfl]
    unfold S.i_readNat
    rw [Option.bind_some]
    dsimp only
    cases hb : okN b
    · have hx : ¬ ((false : Bool) = true ∧ 1 < dv b ∧ Nat.gcd (dv a) (dv b) = 1) := fun q => by cases q.1
      rw [if_neg hx]
      rfl
    · have lb := nd_len200 (B := B32) (by decide) (okN_lt hb)
      have la := nd_len200 (B := B32) (by decide) (okN_lt hok)
      have e1 : S.i_nat_cmp (nd B32 (dv b), (nd B32 1, ())) = some (cmpN (dv b) 1, ()) := by
        unfold S.i_nat_cmp
        dsimp only
        rw [if_pos ⟨canon_nd B32_le _, canon_nd B32_le _, by omega⟩, dval_nd B32_le, dval_nd B32_le]
      have e2 : S.i_nat_gcd (nd B32 (dv a), (nd B32 (dv b), ())) = some (nd B32 (Nat.gcd (dv a) (dv b)), ()) := by
        unfold S.i_nat_gcd
        dsimp only
        rw [if_pos ⟨canon_nd B32_le _, canon_nd B32_le _, by omega, by omega⟩, dval_nd B32_le, dval_nd B32_le]
      show (Option.bind (S.i_natOf ((1 : Int) , ())) (fun (y12 : ((List Int) × Unit)) => (Option.bind (S.i_nat_cmp (nd B32 (dv b) , (y12.1 , ()))) (fun (y13 : (Int × Unit)) => (if ((decide (y13.1 ≤ (0 : Int))) = true) then (some ((rp B32 noQ.1 , noQ.2) , ()))
 else (Option.bind (S.i_nat_gcd (nd B32 (dv a) , (nd B32 (dv b) , ()))) (fun (y14 : ((List Int) × Unit)) => (Option.bind (S.i_natOf ((1 : Int) , ())) (fun (y15 : ((List Int) × Unit)) => (Option.bind (S.i_nat_cmp (y14.1 , (y15.1 , ()))) (fun (y16 : (Int × Unit)) => (if ((y16.1 != (0 : Int)) = true) then (some ((rp B32 noQ.1 , noQ.2) , ()))
 else (some (((neg , (nd B32 (dv a) , nd B32 (dv b))) , true) , ())))))))))))))) = _
      rw [natOf_one, Option.bind_some]
      dsimp only
      rw [e1, Option.bind_some]
      dsimp only
      by_cases h1 : 1 < dv b
      · have hc : ¬ (cmpN (dv b) 1 ≤ 0) := by
          have := (cmpN_gt (a := dv b) (b := 1)).2 h1
          omega
        have lg : (nd B32 (Nat.gcd (dv a) (dv b))).length ≤ 200 := Nat.le_trans (nd_shorter' B32_le (Nat.le_of_dvd (by omega) (Nat.gcd_dvd_right _ _))) lb
        have e3 : S.i_nat_cmp (nd B32 (Nat.gcd (dv a) (dv b)), (nd B32 1, ())) = some (cmpN (Nat.gcd (dv a) (dv b)) 1, ()) := by
          unfold S.i_nat_cmp
          dsimp only
          rw [if_pos ⟨canon_nd B32_le _, canon_nd B32_le _, by omega⟩, dval_nd B32_le, dval_nd B32_le]
        rw [if_neg (by simpa using hc), e2, Option.bind_some, Option.bind_some]
        dsimp only
        rw [e3, Option.bind_some]
        dsimp only
        by_cases hg : Nat.gcd (dv a) (dv b) = 1
        · rw [if_neg (by simpa using cmpN_zero.2 hg), if_pos ⟨rfl, h1, hg⟩]
          rfl
        · rw [if_pos (by simpa using fun q => hg (cmpN_zero.1 q)), if_neg (fun q => hg q.2.2)]
      · have hc : cmpN (dv b) 1 ≤ 0 := by
          have h2 : ¬ (cmpN (dv b) 1 > 0) := fun q => h1 ((cmpN_gt (a := dv b) (b := 1)).1 q)
          omega
        rw [if_pos (decide_eq_true hc), if_neg (fun q => h1 q.2.1)]
theorem S.i_readRat_ok (x : (ByteArray × Unit)) (r : _) (h : S.i_readRat x = some r) : ∃ k, P.i_readRat k x = some r := by
  obtain ⟨s, u⟩ := x
  unfold S.i_readRat at h
  dsimp only at h
  split at h
  case isFalse => cases h
  rename_i hsz
  refine ⟨0, ?_⟩
  rw [← h]
  unfold P.i_readRat
  dsimp only
  have e0 : S.strings_Cut (s, (bs [47], ())) = some ((⟨(cutP 47 s.data.toList).1.toArray⟩, (⟨(cutP 47 s.data.toList).2.1.toArray⟩, (cutP 47 s.data.toList).2.2)), ()) := by
    unfold S.strings_Cut
    dsimp only
    rw [if_pos hsz, show (bs [47]).data.toList = [47] from rfl, cut_cutP]
  have e1 : ∀ l : List UInt8, S.strings_CutPrefix (⟨l.toArray⟩, (bs [45], ())) = some ((⟨(if l.head? = some 45 then l.tail else l).toArray⟩, decide (l.head? = some 45)), ()) := by
    intro l
    unfold S.strings_CutPrefix Go.Lib.trimPrefix Go.Lib.hasPrefix
    dsimp only
    rw [show (bs [45]).data.toList = [45] from rfl]
    cases l with
    | nil => rfl
    | cons b r =>
      by_cases hb : b = 45
      · subst hb
        simp
      · have hb' : ¬ (45 = b) := fun q => hb q.symm
        have hp : ([45].isPrefixOf (b :: r)) = false := by
          show ((45 : UInt8) == b && ([] : List UInt8).isPrefixOf r) = false
          rw [show ((45 : UInt8) == b) = false from beq_eq_false_iff_ne.2 hb', Bool.false_and]
        have hh : ¬ ((b :: r).head? = some 45) := by simpa using hb
        rw [hp, if_neg (by decide), if_neg hh, decide_eq_false hh]
  rw [e0, Option.bind_some]
  dsimp only
  rw [e1, Option.bind_some]
  dsimp only
  generalize s.data.toList = l at *
  -- both ways to take the sign off
  have hcut : ∃ (neg : Bool) (c : List UInt8 × List UInt8 × Bool), decide ((cutP 47 l).1.head? = some 45) = neg ∧ (if (cutP 47 l).1.head? = some 45 then (cutP 47 l).1.tail else (cutP 47 l).1) = c.1 ∧ (cutP 47 l).2.1 = c.2.1 ∧ (cutP 47 l).2.2 = c.2.2 ∧ rdRat l = rdBody neg c := by
    unfold rdRat
    cases l with
    | nil => exact ⟨false, cutP 47 [], rfl, rfl, rfl, rfl, rfl⟩
    | cons b r =>
      by_cases hb : b = 45
      · subst hb
        have hc : cutP 47 (45 :: r) = (45 :: (cutP 47 r).1, (cutP 47 r).2.1, (cutP 47 r).2.2) := by rw [cutP_cons, if_neg (by decide)]
        rw [hc]
        exact ⟨true, cutP 47 r, rfl, rfl, rfl, rfl, rfl⟩
      · have hh : ¬ ((cutP 47 (b :: r)).1.head? = some 45) := by
          rw [cutP_cons]
          split
          · simp
          · simpa using hb
        refine ⟨false, cutP 47 (b :: r), decide_eq_false hh, if_neg hh, rfl, rfl, ?_⟩
        rw [if_neg (by simpa using hb)]
  obtain ⟨neg, c, h1, h2, h3, h4, h5⟩ := hcut
  rw [h1, h2, h3, h4, h5]
  have e2 : S.i_readNat (⟨c.1.toArray⟩, ()) = some (if okN c.1 = true then (nd B32 (dv c.1), true) else ([], false), ()) := rfl
  rw [e2, Option.bind_some]
  cases hok : okN c.1
  · have : rdBody neg c = noQ := by
      unfold rdBody
      rw [if_neg (fun q => by rw [hok] at q; cases q.1)]
    rw [this, ← rr_bad]
    rfl
  · rw [if_pos rfl]
    dsimp only
    rw [if_neg (show ¬ ((!true) = true) by decide)]
    have hz : (((nd B32 (dv c.1)).length : Int) == 0) = decide (dv c.1 = 0) := by
      have := canon_nil B32_le (canon_nd B32_le (dv c.1))
      rw [dval_nd B32_le] at this
      by_cases h0 : dv c.1 = 0
      · rw [this.2 h0, h0]; rfl
      · have hne := fun q => h0 (this.1 q)
        rw [decide_eq_false h0]
        simpa using hne
    cases neg
    · rw [if_neg (by decide)]
      exact rr_rest false c hok (fun q => by cases q.1)
    · rw [if_pos rfl, hz]
      by_cases h0 : dv c.1 = 0
      · have : rdBody true c = noQ := by
          unfold rdBody
          rw [if_neg (fun q => q.2 ⟨rfl, h0⟩)]
        rw [if_pos (decide_eq_true h0), this, ← rr_bad]
      · rw [if_neg (by simpa using h0)]
        exact rr_rest true c hok (fun q => h0 q.2)
abbrev P.i_rats_b0  (x1 : (Int × (Int × ((List ByteArray) × ((List (Bool × ((List Int) × (List Int)))) × Unit))))) (g2 : (Int × (Int × ((List ByteArray) × ((List (Bool × ((List Int) × (List Int)))) × Unit)))) → Option (((List (Bool × ((List Int) × (List Int)))) × Bool) × Unit)) : Option (((List (Bool × ((List Int) × (List Int)))) × Bool) × Unit) :=
 (if ((decide (x1.1 < x1.2.1)) = true) then (if ((decide ((0 : Int) ≤ x1.1)) = true) then (if ((decide (x1.1 < (((List.length x1.2.2.1) : Nat) : Int))) = true) then (Option.bind (S.i_readRat ((List.getD x1.2.2.1 (Int.toNat x1.1) (bs [])) , ())) (fun (y3 : (((Bool × ((List Int) × (List Int))) × Bool) × Unit)) => (if ((!y3.1.2) = true) then (some ((([] : List (Bool × ((List Int) × (List Int)))) , false) , ()))
 else (if ((decide ((((List.length x1.2.2.2.1) + (List.length ((y3.1.1.1 , (y3.1.1.2.1 , y3.1.1.2.2)) :: ([] : List (Bool × ((List Int) × (List Int))))))) * (56 : Nat)) ≤ (140737488355328 : Nat))) = true) then (g2 ((Go.IntKind.wrap Go.IntKind.i64 (x1.1 + (1 : Int))) , (x1.2.1 , (x1.2.2.1 , ((x1.2.2.2.1 ++ ((y3.1.1.1 , (y3.1.1.2.1 , y3.1.1.2.2)) :: ([] : List (Bool × ((List Int) × (List Int)))))) , ())))))
 else none))))
 else none)
 else none)
 else (some ((x1.2.2.2.1 , true) , ())))
def P.i_rats (k : Nat) (x : ((List ByteArray) × Unit)) : (Option (((List (Bool × ((List Int) × (List Int)))) × Bool) × Unit)) :=
 (if ((decide ((((List.length x.1) : Nat) : Int) > (300 : Int))) = true) then (some ((([] : List (Bool × ((List Int) × (List Int)))) , false) , ()))
 else (loopP (X := (Int × (Int × ((List ByteArray) × ((List (Bool × ((List Int) × (List Int)))) × Unit))))) (R := (((List (Bool × ((List Int) × (List Int)))) × Bool) × Unit)) (P.i_rats_b0 ) k ((0 : Int) , ((((List.length x.1) : Nat) : Int) , (x.1 , (([] : List (Bool × ((List Int) × (List Int)))) , ()))))))
open Classical in
def S.i_rats (x : ((List ByteArray) × Unit)) : (Option (((List (Bool × ((List Int) × (List Int)))) × Bool) × Unit)) := if okT x.1 = true then some (((rdAll x.1).1.map (rp B32), (rdAll x.1).2), ()) else none
theorem i_rats_read (s : ByteArray) (h : s.size ≤ 1000000) : S.i_readRat (s, ()) = some ((rp B32 (rdRat s.data.toList).1, (rdRat s.data.toList).2), ()) := by
  unfold S.i_readRat
  exact if_pos (by dsimp only; omega)
theorem S.i_rats_ok (x : ((List ByteArray) × Unit)) (r : _) (h : S.i_rats x = some r) : ∃ k, P.i_rats k x = some r := by
  obtain ⟨ls, u⟩ := x
  unfold S.i_rats at h
  dsimp only at h
  split at h
  case isFalse => cases h
  rename_i hc
  cases h
  refine ⟨ls.length + 1, ?_⟩
  unfold P.i_rats rdAll
  dsimp only
  by_cases hl : (ls.length : Int) > 300
  · rw [if_pos (decide_eq_true hl), if_neg (show ¬ (ls.length ≤ 300 ∧ (ls.all fun s => (rdRat s.data.toList).2) = true) from fun z => by omega)]
    rfl
  rw [if_neg (by simpa using hl)]
  have key := loop_up0 (k := ls.length + 1) (b := P.i_rats_b0) (n := ls.length) (st := fun i => ((i : Int), (ls.length : Int), ls, (ls.take i).map (fun s => rp B32 (rdRat s.data.toList).1), ())) (F := fun i => some (if ((ls.drop i).all fun s => (rdRat s.data.toList).2) = true then (ls.map (fun s => rp B32 (rdRat s.data.toList).1), true) else ([], false), ())) (fun i g hi hg => by
    unfold P.i_rats_b0
    dsimp only at hg ⊢
    have e1 : (i : Int) < (ls.length : Int) := by omega
    have e2 : (0 : Int) ≤ (i : Int) := by omega
    simp only [e1, e2, decide_true, if_true]
    rw [getD_cast ls i _ hi, i_rats_read _ (okT_get hc hi), Option.bind_some, List.drop_eq_getElem_cons hi, List.all_cons]
    dsimp only
    cases hf : (rdRat ls[i].data.toList).2
    · rw [if_pos (by rfl), if_neg (by simp)]
    · rw [if_neg (by simp), wr (by omega) (by omega), Bool.true_and, ← hg]
      have e3 : ((List.map (fun s : ByteArray => rp B32 (rdRat s.data.toList).1) (ls.take i)).length + 1) * 56 ≤ 140737488355328 := by
        rw [List.length_map, List.length_take]
        omega
      simp only [List.length_cons, List.length_nil, Nat.zero_add]
      rw [if_pos (decide_eq_true e3), List.take_add_one, List.getElem?_eq_getElem hi, Option.toList_some, List.map_append]
      rfl) (fun g => by
    unfold P.i_rats_b0
    dsimp only
    rw [if_neg (by simp), List.take_length, List.drop_length]
    rfl) (by omega)
  refine key.trans ?_
  rw [List.drop_zero]
  by_cases ha : (ls.all fun s => (rdRat s.data.toList).2) = true
  · rw [if_pos ha, if_pos (show ls.length ≤ 300 ∧ (ls.all fun s => (rdRat s.data.toList).2) = true from ⟨by omega, ha⟩), List.map_map]
    rfl
  · rw [if_neg ha, if_neg (fun z => ha z.2)]
    rfl
def P.i_rat_sign (k : Nat) (x : ((Bool × ((List Int) × (List Int))) × Unit)) : (Option (Int × Unit)) :=
 (if (((((List.length x.1.2.1) : Nat) : Int) == (0 : Int)) = true) then (some ((0 : Int) , ()))
 else (if (x.1.1 = true) then (some ((-1 : Int) , ()))
 else (some ((1 : Int) , ()))))
def S.i_rat_sign (x : ((Bool × ((List Int) × (List Int))) × Unit)) : (Option (Int × Unit)) := if canon B32 x.1.2.1 = true then some (sgnQ x.1.1 (dval B32 x.1.2.1), ()) else none
theorem S.i_rat_sign_ok (x : ((Bool × ((List Int) × (List Int))) × Unit)) (r : _) (h : S.i_rat_sign x = some r) : ∃ k, P.i_rat_sign k x = some r := by
  obtain ⟨⟨n, as, bs⟩, u⟩ := x
  unfold S.i_rat_sign at h
  dsimp only at h
  split at h
  case isFalse => cases h
  rename_i ca
  cases h
  refine ⟨0, ?_⟩
  unfold P.i_rat_sign sgnQ
  dsimp only
  have h := canon_nil B32_le ca
  by_cases h0 : as = []
  · rw [if_pos (h.1 h0), h0, if_pos (by rfl)]
  · rw [if_neg (fun q => h0 (h.2 q)), if_neg (by simpa using h0)]
    cases n <;> rfl
def P.i_notPlus (k : Nat) (x : ((Bool × ((List Int) × (List Int))) × Unit)) : (Option (Bool × Unit)) :=
 (Option.bind (S.i_rat_sign ((x.1.1 , (x.1.2.1 , x.1.2.2)) , ())) (fun (y0 : (Int × Unit)) => (some ((decide (y0.1 ≤ (0 : Int))) , ()))))
def S.i_notPlus (x : ((Bool × ((List Int) × (List Int))) × Unit)) : (Option (Bool × Unit)) := if rok B32 100000 x.1 = true then some (!posQ (rv B32 x.1), ()) else none
theorem S.i_notPlus_ok (x : ((Bool × ((List Int) × (List Int))) × Unit)) (r : _) (h : S.i_notPlus x = some r) : ∃ k, P.i_notPlus k x = some r := by
  obtain ⟨y, u⟩ := x
  unfold S.i_notPlus at h
  dsimp only at h
  split at h
  case isFalse => cases h
  rename_i hc
  cases h
  obtain ⟨n, p, q, rfl, _, _⟩ := rok_nd hc
  refine ⟨0, ?_⟩
  unfold P.i_notPlus
  dsimp only
  have hs : S.i_rat_sign ((n, (nd B32 p, nd B32 q)), ()) = some (sgnQ n p, ()) := by
    unfold S.i_rat_sign
    dsimp only
    rw [if_pos (canon_nd B32_le _), dval_nd B32_le]
  rw [hs, Option.bind_some, rv_nd B32_le]
  dsimp only
  rw [← sgnQ_npos]
abbrev P.slices_IndexFunc__i_rat_i_ratP_b0  (x1 : (Int × (Int × (Unit × ((List (Bool × ((List Int) × (List Int)))) × Unit))))) (g2 : (Int × (Int × (Unit × ((List (Bool × ((List Int) × (List Int)))) × Unit)))) → Option (Int × Unit)) : Option (Int × Unit) :=
 (if ((decide (x1.1 < x1.2.1)) = true) then (if ((decide ((0 : Int) ≤ x1.1)) = true) then (if ((decide (x1.1 < (((List.length x1.2.2.2.1) : Nat) : Int))) = true) then (Option.bind (S.i_notPlus (((List.getD x1.2.2.2.1 (Int.toNat x1.1) (false , (([] : List Int) , ([] : List Int)))).1 , ((List.getD x1.2.2.2.1 (Int.toNat x1.1) (false , (([] : List Int) , ([] : List Int)))).2.1 , (List.getD x1.2.2.2.1 (Int.toNat x1.1) (false , (([] : List Int) , ([] : List Int)))).2.2)) , ())) (fun (y3 : (Bool × Unit)) => (if (y3.1 = true) then (some (x1.1 , ()))
 else (g2 ((Go.IntKind.wrap Go.IntKind.i64 (x1.1 + (1 : Int))) , (x1.2.1 , (() , (x1.2.2.2.1 , ()))))))))
 else none)
 else none)
 else (some ((-1 : Int) , ())))
def P.slices_IndexFunc__i_rat_i_ratP (k : Nat) (x : ((List (Bool × ((List Int) × (List Int)))) × (Unit × Unit))) : (Option (Int × Unit)) :=
 (loopP (X := (Int × (Int × (Unit × ((List (Bool × ((List Int) × (List Int)))) × Unit))))) (R := (Int × Unit)) (P.slices_IndexFunc__i_rat_i_ratP_b0 ) k ((0 : Int) , ((((List.length x.1) : Nat) : Int) , (() , (x.1 , ())))))
open Classical in
def S.slices_IndexFunc__i_rat_i_ratP (x : ((List (Bool × ((List Int) × (List Int)))) × (Unit × Unit))) : (Option (Int × Unit)) := if goodL B32 x.1 then some (ixF (fun r => !posQ r) (x.1.map (rv B32)), ()) else none
theorem S.slices_IndexFunc__i_rat_i_ratP_ok (x : ((List (Bool × ((List Int) × (List Int)))) × (Unit × Unit))) (r : _) (h : S.slices_IndexFunc__i_rat_i_ratP x = some r) : ∃ k, P.slices_IndexFunc__i_rat_i_ratP k x = some r := by
  obtain ⟨xs, u, u'⟩ := x
  unfold S.slices_IndexFunc__i_rat_i_ratP at h
  dsimp only at h
  split at h
  case isFalse => cases h
  rename_i hc
  cases h
  obtain ⟨qs, n, rfl, hg⟩ := hc
  have hlen := good_len hg
  refine ⟨qs.length + 1, ?_⟩
  unfold P.slices_IndexFunc__i_rat_i_ratP
  dsimp only
  have hm : ∀ i (hi : i < qs.length), S.i_notPlus (rp B32 qs[i], ()) = some (!posQ qs[i], ()) := by
    intro i hi
    unfold S.i_notPlus
    dsimp only
    rw [if_pos (lowb_iff.1 (good_get (by decide) hg hi)).1, rv_rp B32_le]
  have key := loop_up0 (k := qs.length + 1) (b := P.slices_IndexFunc__i_rat_i_ratP_b0) (n := qs.length) (st := fun i => ((i : Int), (qs.length : Int), (), qs.map (rp B32), ())) (F := fun i => some (if ixF (fun r => !posQ r) (qs.drop i) < 0 then -1 else ixF (fun r => !posQ r) (qs.drop i) + i, ())) (fun i g hi hg' => by
    unfold P.slices_IndexFunc__i_rat_i_ratP_b0
    dsimp only at hg' ⊢
    have e1 : (i : Int) < (qs.length : Int) := by omega
    have e2 : (0 : Int) ≤ (i : Int) := by omega
    have e3 : (i : Int) < ((qs.map (rp B32)).length : Int) := by rw [List.length_map]; omega
    rw [if_pos (decide_eq_true e1), if_pos (decide_eq_true e2), if_pos (decide_eq_true e3), getD_cast (qs.map (rp B32)) i _ (by rw [List.length_map]; exact hi), List.getElem_map]
    show Option.bind (S.i_notPlus (rp B32 qs[i], ())) _ = _
    rw [hm i hi, Option.bind_some, List.drop_eq_getElem_cons hi, ixF_cons]
    dsimp only
    cases hf : !posQ qs[i]
    · simp only [Bool.false_eq_true, if_false]
      rw [wr (by omega) (by omega)]
      refine hg'.trans ?_
      congr 2
      have := ixF_ge (fun r => !posQ r) (qs.drop (i + 1))
      split
      · rfl
      · rw [if_neg (by omega)]
        omega
    · simp) (fun g => by
    unfold P.slices_IndexFunc__i_rat_i_ratP_b0
    dsimp only
    rw [if_neg (by simp), List.drop_length]
    rfl) (by omega)
  rw [List.length_map, map_rv B32_le]
  refine key.trans ?_
  rw [List.drop_zero]
  congr 2
  have hr := ixF_ge (fun r => !posQ r) qs
  split <;> omega
def P.slices_ContainsFunc__i_rat_i_ratP (k : Nat) (x : ((List (Bool × ((List Int) × (List Int)))) × (Unit × Unit))) : (Option (Bool × Unit)) :=
 (Option.bind (S.slices_IndexFunc__i_rat_i_ratP (x.1 , (() , ()))) (fun (y0 : (Int × Unit)) => (some ((decide (y0.1 ≥ (0 : Int))) , ()))))
open Classical in
def S.slices_ContainsFunc__i_rat_i_ratP (x : ((List (Bool × ((List Int) × (List Int)))) × (Unit × Unit))) : (Option (Bool × Unit)) := if goodL B32 x.1 then some (!ratesB (x.1.map (rv B32)), ()) else none
theorem S.slices_ContainsFunc__i_rat_i_ratP_ok (x : ((List (Bool × ((List Int) × (List Int)))) × (Unit × Unit))) (r : _) (h : S.slices_ContainsFunc__i_rat_i_ratP x = some r) : ∃ k, P.slices_ContainsFunc__i_rat_i_ratP k x = some r := by
  obtain ⟨xs, u, u'⟩ := x
  unfold S.slices_ContainsFunc__i_rat_i_ratP at h
  dsimp only at h
  split at h
  case isFalse => cases h
  rename_i hc
  cases h
  refine ⟨0, ?_⟩
  unfold P.slices_ContainsFunc__i_rat_i_ratP S.slices_IndexFunc__i_rat_i_ratP
  dsimp only
  rw [if_pos hc, Option.bind_some, ← not_ratesB, ← ixF_any]
def P.i_lineOf (k : Nat) (x : (((List ByteArray) × (List ByteArray)) × Unit)) : (Option ((((List (Bool × ((List Int) × (List Int)))) × (List (Bool × ((List Int) × (List Int))))) × Bool) × Unit)) :=
 (if ((decide ((((List.length x.1.1) : Nat) : Int) < (1 : Int))) = true) then (some (((([] : List (Bool × ((List Int) × (List Int)))) , ([] : List (Bool × ((List Int) × (List Int))))) , false) , ()))
 else (if ((decide ((((List.length x.1.1) : Nat) : Int) > (20 : Int))) = true) then (some (((([] : List (Bool × ((List Int) × (List Int)))) , ([] : List (Bool × ((List Int) × (List Int))))) , false) , ()))
 else (if (((((List.length x.1.2) : Nat) : Int) != (((List.length x.1.1) : Nat) : Int)) = true) then (some (((([] : List (Bool × ((List Int) × (List Int)))) , ([] : List (Bool × ((List Int) × (List Int))))) , false) , ()))
 else (Option.bind (S.i_rats (x.1.1 , ())) (fun (y0 : (((List (Bool × ((List Int) × (List Int)))) × Bool) × Unit)) => (Option.bind (S.i_rats (x.1.2 , ())) (fun (y1 : (((List (Bool × ((List Int) × (List Int)))) × Bool) × Unit)) => (if ((!y0.1.2) = true) then (some (((([] : List (Bool × ((List Int) × (List Int)))) , ([] : List (Bool × ((List Int) × (List Int))))) , false) , ()))
 else (if ((!y1.1.2) = true) then (some (((([] : List (Bool × ((List Int) × (List Int)))) , ([] : List (Bool × ((List Int) × (List Int))))) , false) , ()))
 else (Option.bind (S.slices_ContainsFunc__i_rat_i_ratP (y0.1.1 , (() , ()))) (fun (y2 : (Bool × Unit)) => (if (y2.1 = true) then (some (((([] : List (Bool × ((List Int) × (List Int)))) , ([] : List (Bool × ((List Int) × (List Int))))) , false) , ()))
 else (Option.bind (S.slices_ContainsFunc__i_rat_i_ratP (y1.1.1 , (() , ()))) (fun (y3 : (Bool × Unit)) => (if (y3.1 = true) then (some (((([] : List (Bool × ((List Int) × (List Int)))) , ([] : List (Bool × ((List Int) × (List Int))))) , false) , ()))
 else (some (((y0.1.1 , y1.1.1) , true) , ())))))))))))))))))
def S.i_lineOf (x : (((List ByteArray) × (List ByteArray)) × Unit)) : (Option ((((List (Bool × ((List Int) × (List Int)))) × (List (Bool × ((List Int) × (List Int))))) × Bool) × Unit)) := if okT x.1.1 = true ∧ okT x.1.2 = true then some ((((lineQ x.1.1 x.1.2).1.1.map (rp B32), (lineQ x.1.1 x.1.2).1.2.map (rp B32)), (lineQ x.1.1 x.1.2).2), ()) else none
theorem S.i_lineOf_ok (x : (((List ByteArray) × (List ByteArray)) × Unit)) (r : _) (h : S.i_lineOf x = some r) : ∃ k, P.i_lineOf k x = some r := by
  obtain ⟨⟨us, ds⟩, u⟩ := x
  unfold S.i_lineOf at h
  dsimp only at h
  split at h
  case isFalse => cases h
  rename_i hc
  cases h
  refine ⟨0, ?_⟩
  unfold P.i_lineOf S.i_rats lineQ
  dsimp only
  by_cases h1 : 1 ≤ us.length
  case neg =>
    rw [if_pos (decide_eq_true (show (us.length : Int) < 1 by omega))]
    simp [h1]
  rw [if_neg (by simpa using (show ¬ (us.length : Int) < 1 by omega))]
  by_cases h2 : us.length ≤ 20
  case neg =>
    rw [if_pos (decide_eq_true (show (us.length : Int) > 20 by omega))]
    simp [h2]
  rw [if_neg (by simpa using (show ¬ (us.length : Int) > 20 by omega))]
  by_cases h3 : ds.length = us.length
  case neg =>
    rw [if_pos (by simp; omega)]
    simp [h3]
  rw [if_neg (by simp; omega), if_pos hc.1, if_pos hc.2, Option.bind_some, Option.bind_some]
  dsimp only
  rw [decide_eq_true h1, decide_eq_true h2, decide_eq_true h3]
  simp only [Bool.true_and]
  cases hu : (rdAll us).2
  · rfl
  cases hd : (rdAll ds).2
  · rfl
  have gu := rdAll_goodL (B := B32) hu
  have gd := rdAll_goodL (B := B32) hd
  have cu : S.slices_ContainsFunc__i_rat_i_ratP ((rdAll us).1.map (rp B32), (), ()) = some (!ratesB (rdAll us).1, ()) := by
    unfold S.slices_ContainsFunc__i_rat_i_ratP
    dsimp only
    rw [if_pos gu, map_rv B32_le]
  have cd : S.slices_ContainsFunc__i_rat_i_ratP ((rdAll ds).1.map (rp B32), (), ()) = some (!ratesB (rdAll ds).1, ()) := by
    unfold S.slices_ContainsFunc__i_rat_i_ratP
    dsimp only
    rw [if_pos gd, map_rv B32_le]
  simp only [Bool.not_true, Bool.false_eq_true, if_false]
  rw [cu, Option.bind_some]
  dsimp only
  cases hx : ratesB (rdAll us).1
  · rfl
  rw [if_neg (by decide), cd, Option.bind_some]
  dsimp only
  cases hy : ratesB (rdAll ds).1
  · rfl
  · rfl
def P.i_ValidLine (k : Nat) (x : (((List ByteArray) × (List ByteArray)) × Unit)) : (Option (Bool × Unit)) :=
 (Option.bind (S.i_lineOf ((x.1.1 , x.1.2) , ())) (fun (y0 : ((((List (Bool × ((List Int) × (List Int)))) × (List (Bool × ((List Int) × (List Int))))) × Bool) × Unit)) => (some (y0.1.2 , ()))))
def S.i_ValidLine (x : (((List ByteArray) × (List ByteArray)) × Unit)) : (Option (Bool × Unit)) := P.i_ValidLine 0 x
theorem S.i_ValidLine_ok (x : (((List ByteArray) × (List ByteArray)) × Unit)) (r : _) (h : S.i_ValidLine x = some r) : ∃ k, P.i_ValidLine k x = some r := ⟨0, h⟩
def P.l_FnExactValidLine (k : Nat) (x : (((List ByteArray) × (List ByteArray)) × Unit)) : (Option (Bool × Unit)) :=
 (Option.bind (S.l_szLine ((x.1.1 , x.1.2) , ((1000000 : Int) , ()))) (fun (y0 : (Int × Unit)) => (if ((decide (y0.1 < (0 : Int))) = true) then (some (true , ()))
 else (Option.bind (S.l_toLine ((x.1.1 , x.1.2) , (false , ()))) (fun (y1 : ((((List ByteArray) × Nat) × ((List ByteArray) × Nat)) × Unit)) => (Option.bind (S.s_ValidLine (((List.take y1.1.1.2 y1.1.1.1) , (List.take y1.1.2.2 y1.1.2.1)) , ())) (fun (y2 : (Bool × Unit)) => (Option.bind (S.l_toLine ((x.1.1 , x.1.2) , (false , ()))) (fun (y3 : ((((List ByteArray) × Nat) × ((List ByteArray) × Nat)) × Unit)) => (Option.bind (S.i_ValidLine (((List.take y3.1.1.2 y3.1.1.1) , (List.take y3.1.2.2 y3.1.2.1)) , ())) (fun (y4 : (Bool × Unit)) => (if ((!(y4.1 == y2.1)) = true) then (some (false , ()))
 else (Option.bind (S.l_toLine ((x.1.1 , x.1.2) , (false , ()))) (fun (y5 : ((((List ByteArray) × Nat) × ((List ByteArray) × Nat)) × Unit)) => (Option.bind (S.l_intactLine (((y3.1.1.1 , y3.1.1.2) , (y3.1.2.1 , y3.1.2.2)) , (((y5.1.1.1 , y5.1.1.2) , (y5.1.2.1 , y5.1.2.2)) , ()))) (fun (y6 : (Bool × Unit)) => (if ((!y6.1) = true) then (some (false , ()))
 else (Option.bind (S.l_toLine ((x.1.1 , x.1.2) , (true , ()))) (fun (y7 : ((((List ByteArray) × Nat) × ((List ByteArray) × Nat)) × Unit)) => (Option.bind (S.i_ValidLine (((List.take y7.1.1.2 y7.1.1.1) , (List.take y7.1.2.2 y7.1.2.1)) , ())) (fun (y8 : (Bool × Unit)) => (if ((!(y8.1 == y2.1)) = true) then (some (false , ()))
 else (some (true , ()))))))))))))))))))))))))
def S.l_FnExactValidLine (x : (((List ByteArray) × (List ByteArray)) × Unit)) : (Option (Bool × Unit)) := P.l_FnExactValidLine 0 x
theorem S.l_FnExactValidLine_ok (x : (((List ByteArray) × (List ByteArray)) × Unit)) (r : _) (h : S.l_FnExactValidLine x = some r) : ∃ k, P.l_FnExactValidLine k x = some r := ⟨0, h⟩
end Go.Cm
end
