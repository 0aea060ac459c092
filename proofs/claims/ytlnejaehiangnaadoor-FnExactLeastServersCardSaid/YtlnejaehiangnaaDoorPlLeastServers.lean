import Derived.Test.YtlnejaehiangnaaDoorPlLeastServersb
set_option linter.unusedVariables false
set_option maxRecDepth 100000
noncomputable section
namespace Go.Cm
abbrev P.i_nat_mul_b3 (g2 : ((Int × (Int × ((List Int) × ((List Int) × ((List Int) × Unit))))) → (Option ((List Int) × Unit)))) (x4 : (Int × (Int × ((List Int) × (Int × (Int × ((List Int) × (Int × ((List Int) × (Int × (Int × ((List Int) × Unit)))))))))))) (g5 : (Int × (Int × ((List Int) × (Int × (Int × ((List Int) × (Int × ((List Int) × (Int × (Int × ((List Int) × Unit))))))))))) → Option ((List Int) × Unit)) : Option ((List Int) × Unit) :=
 (if ((decide (x4.1 < x4.2.1)) = true) then (if ((decide ((0 : Int) ≤ x4.1)) = true) then (if ((decide (x4.1 < (((List.length x4.2.2.1) : Nat) : Int))) = true) then (if ((decide ((0 : Int) ≤ (Go.IntKind.wrap Go.IntKind.i64 (x4.2.2.2.2.2.2.1 + x4.1)))) = true) then (if ((decide ((Go.IntKind.wrap Go.IntKind.i64 (x4.2.2.2.2.2.2.1 + x4.1)) < (((List.length x4.2.2.2.2.2.1) : Nat) : Int))) = true) then (if ((decide ((0 : Int) ≤ (Go.IntKind.wrap Go.IntKind.i64 (x4.2.2.2.2.2.2.1 + x4.1)))) = true) then (if ((decide ((Go.IntKind.wrap Go.IntKind.i64 (x4.2.2.2.2.2.2.1 + x4.1)) < (((List.length x4.2.2.2.2.2.1) : Nat) : Int))) = true) then (g5 ((Go.IntKind.wrap Go.IntKind.i64 (x4.1 + (1 : Int))) , (x4.2.1 , (x4.2.2.1 , ((Int.fdiv (Go.IntKind.wrap Go.IntKind.u64 (x4.2.2.2.1 + (Go.IntKind.wrap Go.IntKind.u64 ((Go.IntKind.wrap Go.IntKind.u64 ((Go.IntKind.wrap Go.IntKind.u64 x4.2.2.2.2.1) * (Go.IntKind.wrap Go.IntKind.u64 (List.getD x4.2.2.1 (Int.toNat x4.1) (0 : Int))))) + (Go.IntKind.wrap Go.IntKind.u64 (List.getD x4.2.2.2.2.2.1 ((0 : Nat) + (Int.toNat (Go.IntKind.wrap Go.IntKind.i64 (x4.2.2.2.2.2.2.1 + x4.1)))) (0 : Int))))))) (4294967296 : Int)) , (x4.2.2.2.2.1 , ((List.set x4.2.2.2.2.2.1 ((0 : Nat) + (Int.toNat (Go.IntKind.wrap Go.IntKind.i64 (x4.2.2.2.2.2.2.1 + x4.1)))) (Go.IntKind.wrap Go.IntKind.u32 (Go.IntKind.wrap Go.IntKind.u64 (x4.2.2.2.1 + (Go.IntKind.wrap Go.IntKind.u64 ((Go.IntKind.wrap Go.IntKind.u64 ((Go.IntKind.wrap Go.IntKind.u64 x4.2.2.2.2.1) * (Go.IntKind.wrap Go.IntKind.u64 (List.getD x4.2.2.1 (Int.toNat x4.1) (0 : Int))))) + (Go.IntKind.wrap Go.IntKind.u64 (List.getD x4.2.2.2.2.2.1 ((0 : Nat) + (Int.toNat (Go.IntKind.wrap Go.IntKind.i64 (x4.2.2.2.2.2.2.1 + x4.1)))) (0 : Int))))))))) , (x4.2.2.2.2.2.2.1 , (x4.2.2.2.2.2.2.2.1 , (x4.2.2.2.2.2.2.2.2.1 , (x4.2.2.2.2.2.2.2.2.2.1 , (x4.2.2.2.2.2.2.2.2.2.2.1 , ()))))))))))))
 else none)
 else none)
 else none)
 else none)
 else none)
 else none)
 else (if ((decide ((0 : Int) ≤ (Go.IntKind.wrap Go.IntKind.i64 (x4.2.2.2.2.2.2.1 + (((List.length x4.2.2.2.2.2.2.2.1) : Nat) : Int))))) = true) then (if ((decide ((Go.IntKind.wrap Go.IntKind.i64 (x4.2.2.2.2.2.2.1 + (((List.length x4.2.2.2.2.2.2.2.1) : Nat) : Int))) < (((List.length x4.2.2.2.2.2.1) : Nat) : Int))) = true) then (g2 ((Go.IntKind.wrap Go.IntKind.i64 (x4.2.2.2.2.2.2.2.2.1 + (1 : Int))) , (x4.2.2.2.2.2.2.2.2.2.1 , (x4.2.2.2.2.2.2.2.2.2.2.1 , (x4.2.2.2.2.2.2.2.1 , ((List.set x4.2.2.2.2.2.1 ((0 : Nat) + (Int.toNat (Go.IntKind.wrap Go.IntKind.i64 (x4.2.2.2.2.2.2.1 + (((List.length x4.2.2.2.2.2.2.2.1) : Nat) : Int))))) (Go.IntKind.wrap Go.IntKind.u32 x4.2.2.2.1)) , ()))))))
 else none)
 else none))
abbrev P.i_nat_mul_b0 (k : Nat) (x1 : (Int × (Int × ((List Int) × ((List Int) × ((List Int) × Unit)))))) (g2 : (Int × (Int × ((List Int) × ((List Int) × ((List Int) × Unit))))) → Option ((List Int) × Unit)) : Option ((List Int) × Unit) :=
 (if ((decide (x1.1 < x1.2.1)) = true) then (if ((decide ((0 : Int) ≤ x1.1)) = true) then (if ((decide (x1.1 < (((List.length x1.2.2.1) : Nat) : Int))) = true) then (loopP (X := (Int × (Int × ((List Int) × (Int × (Int × ((List Int) × (Int × ((List Int) × (Int × (Int × ((List Int) × Unit)))))))))))) (R := ((List Int) × Unit)) (P.i_nat_mul_b3 g2) k ((0 : Int) , ((((List.length x1.2.2.2.1) : Nat) : Int) , (x1.2.2.2.1 , ((0 : Int) , ((List.getD x1.2.2.1 (Int.toNat x1.1) (0 : Int)) , (x1.2.2.2.2.1 , (x1.1 , (x1.2.2.2.1 , (x1.1 , (x1.2.1 , (x1.2.2.1 , ()))))))))))))
 else none)
 else none)
 else (Option.bind (S.i_nat_trim (x1.2.2.2.2.1 , ())) (fun (y6 : ((List Int) × Unit)) => (some (y6.1 , ())))))
def P.i_nat_mul (k : Nat) (x : ((List Int) × ((List Int) × Unit))) : (Option ((List Int) × Unit)) :=
 (if ((decide ((0 : Int) ≤ (Go.IntKind.wrap Go.IntKind.i64 ((((List.length x.1) : Nat) : Int) + (((List.length x.2.1) : Nat) : Int))))) = true) then (if ((decide ((Go.IntKind.wrap Go.IntKind.i64 ((((List.length x.1) : Nat) : Int) + (((List.length x.2.1) : Nat) : Int))) ≤ (Go.IntKind.wrap Go.IntKind.i64 ((((List.length x.1) : Nat) : Int) + (((List.length x.2.1) : Nat) : Int))))) = true) then (if ((decide (((Go.IntKind.wrap Go.IntKind.i64 ((((List.length x.1) : Nat) : Int) + (((List.length x.2.1) : Nat) : Int))) * (4 : Int)) ≤ (281474976710656 : Int))) = true) then (loopP (X := (Int × (Int × ((List Int) × ((List Int) × ((List Int) × Unit)))))) (R := ((List Int) × Unit)) (P.i_nat_mul_b0 k) k ((0 : Int) , ((((List.length x.1) : Nat) : Int) , (x.1 , (x.2.1 , ((List.replicate (Int.toNat (Go.IntKind.wrap Go.IntKind.i64 ((((List.length x.1) : Nat) : Int) + (((List.length x.2.1) : Nat) : Int)))) (0 : Int)) , ()))))))
 else none)
 else none)
 else none)
theorem im_inner (g : (Int × (Int × ((List Int) × ((List Int) × ((List Int) × Unit))))) → (Option ((List Int) × Unit))) (F : Option ((List Int) × Unit)) {xs ys : List Int} (hx : dig B32 xs = true) (hy : dig B32 ys = true) (hlx : xs.length ≤ 10000000000) (hly : ys.length ≤ 10000000000) {i : Nat} (hi : i < xs.length) (K : Nat) (hK : ys.length < K)
    (hg : g (((i + 1 : Nat) : Int), ((xs.length : Int), (xs, (ys, (fd B32 (xs.length + ys.length) (dval B32 (xs.take (i + 1)) * dval B32 ys), ()))))) = F) :
    loopP (P.i_nat_mul_b3 g) K ((0 : Int), ((ys.length : Int), (ys, ((0 : Int), (xs.getD i 0, (fd B32 (xs.length + ys.length) (dval B32 (xs.take i) * dval B32 ys), ((i : Int), (ys, ((i : Int), ((xs.length : Int), (xs, ()))))))))))) = F := by
  have hA := mul_bound B32_le hx hy i (by omega)
  have hA' := mul_bound B32_le hx hy (i + 1) (by omega)
  have gx := dig_getD (B := B32) (by decide) hx i
  have gx1 : xs.getD i 0 < 4294967296 := gx.2
  have gx0 := gx.1
  rw [dval_take_succ, Nat.add_mul, Nat.mul_assoc] at hg hA'
  generalize dval B32 (xs.take i) * dval B32 ys = A at *
  obtain ⟨x, hxe⟩ : ∃ x : Nat, xs.getD i 0 = (x : Int) := ⟨(xs.getD i 0).toNat, by omega⟩
  rw [hxe, Int.toNat_natCast] at hg hA'
  rw [hxe] at gx1 ⊢
  have hxB : x < B32 := by show x < 4294967296; omega
  have hsh := mul_shape B32_le hi hA
  rw [hsh]
  have hlw : (fd B32 ys.length (A / B32 ^ i)).length = ys.length := fd_len _ _ _
  have hdw : dig B32 (fd B32 ys.length (A / B32 ^ i)) = true := dig_fd (by decide) _ _
  have hvw : dval B32 (fd B32 ys.length (A / B32 ^ i)) = A / B32 ^ i := by
    rw [dval_fd, Nat.mod_eq_of_lt]
    rw [Nat.div_lt_iff_lt_mul (Nat.pow_pos (by decide)), ← Nat.pow_add, Nat.add_comm]
    exact hA
  have hnext := mul_next B32_le (la := xs.length) (lb := ys.length) (R := x * dval B32 ys) hi hA'
  generalize hR : List.replicate (xs.length - 1 - i) (0 : Int) = R at *
  have hRl : R.length = xs.length - 1 - i := by rw [← hR, List.length_replicate]
  generalize hW : fd B32 ys.length (A / B32 ^ i) = W at *
  have hl0 : (fd B32 i A).length = i := fd_len _ _ _
  have key := loop_up0 (k := K) (b := P.i_nat_mul_b3 g) (n := ys.length) (st := fun k => ((k : Int), (ys.length : Int), ys, ((maUp B32 x W ys k).2 : Int), (x : Int), (fd B32 i A ++ (maUp B32 x W ys k).1) ++ (W.drop k ++ (0 : Int) :: R), (i : Int), ys, (i : Int), (xs.length : Int), xs, ())) (F := fun k => F) (fun k g' hk hg' => by
    unfold P.i_nat_mul_b3
    dsimp only at hg' ⊢
    refine Eq.trans ?_ hg'
    clear hg'
    obtain ⟨q1, q2, q3, q4⟩ := maUp_ok (x := x) B32_le hxB hdw hy k
    have q4' : (maUp B32 x W ys k).2 < 4294967296 := q4
    have gy := dig_getD (B := B32) (by decide) hy k
    have gw := dig_getD (B := B32) (by decide) hdw k
    have gy1 : ys.getD k 0 < 4294967296 := gy.2
    have gw1 : W.getD k 0 < 4294967296 := gw.2
    have gy0 := gy.1
    have gw0 := gw.1
    have hAl : (fd B32 i A ++ (maUp B32 x W ys k).1).length = i + k := by rw [List.length_append, hl0, q2]
    have hlen : ((fd B32 i A ++ (maUp B32 x W ys k).1) ++ (W.drop k ++ (0 : Int) :: R)).length = xs.length + ys.length := by
      rw [List.length_append, hAl, List.length_append, List.length_drop, List.length_cons, hlw, hRl]
      omega
    have e1 : (k : Int) < (ys.length : Int) := by omega
    have e2 : (0 : Int) ≤ (k : Int) := by omega
    have e3 : (0 : Int) ≤ ((i + k : Nat) : Int) := by omega
    have e4 : ((i + k : Nat) : Int) < ((xs.length + ys.length : Nat) : Int) := by omega
    rw [hlen, ← Int.natCast_add i k, wr (x := ((i + k : Nat) : Int)) (by omega) (by omega)]
    simp only [e1, e2, e3, e4, decide_true, if_true, Nat.zero_add, Int.toNat_natCast]
    rw [drop_cons_getD (xs := W) (i := k) (by omega), List.cons_append, mid_get hAl]
    simp only [mid_set hAl]
    rw [maUp]
    dsimp only
    generalize W.getD k 0 = w at *
    generalize ys.getD k 0 = y at *
    generalize maUp B32 x W ys k = p at *
    obtain ⟨pl, c0⟩ := p
    dsimp only at *
    obtain ⟨Y, rfl⟩ : ∃ Y : Nat, y = (Y : Int) := ⟨y.toNat, by omega⟩
    obtain ⟨w', rfl⟩ : ∃ Y : Nat, w = (Y : Int) := ⟨w.toNat, by omega⟩
    rw [Int.toNat_natCast, Int.toNat_natCast]
    have hxY : x * Y ≤ 4294967295 * 4294967295 := Nat.mul_le_mul (by omega) (by omega)
    rw [wu (x := (x : Int)) (by omega) (by omega), wu (x := (Y : Int)) (by omega) (by omega), ← Int.natCast_mul, wu (x := ((x * Y : Nat) : Int)) (by omega) (by omega), wu (x := (w' : Int)) (by omega) (by omega), ← Int.natCast_add, wu (x := ((x * Y + w' : Nat) : Int)) (by omega) (by omega), ← Int.natCast_add, wu (x := ((c0 + (x * Y + w') : Nat) : Int)) (by omega) (by omega), Int.fdiv_eq_ediv_of_nonneg _ (by omega), u32_emod, wr (x := (k : Int) + 1) (by omega) (by omega)]
    have e8 : ((c0 + (x * Y + w') : Nat) : Int) % 4294967296 = (((c0 + (x * Y + w')) % B32 : Nat) : Int) := by
      show _ = (((c0 + (x * Y + w')) % 4294967296 : Nat) : Int)
      omega
    have e9 : ((c0 + (x * Y + w') : Nat) : Int) / 4294967296 = (((c0 + (x * Y + w')) / B32 : Nat) : Int) := by
      show _ = (((c0 + (x * Y + w')) / 4294967296 : Nat) : Int)
      omega
    rw [e8, e9, ← List.append_assoc (fd B32 i A)]
    rfl) (fun g' => by
    unfold P.i_nat_mul_b3
    dsimp only
    obtain ⟨q1, q2, q3, q4⟩ := maUp_ok (x := x) B32_le hxB hdw hy ys.length
    have q4' : (maUp B32 x W ys ys.length).2 < 4294967296 := q4
    rw [List.take_length, ← hlw, List.take_length, hlw, hvw] at q3
    have hAl : (fd B32 i A ++ (maUp B32 x W ys ys.length).1).length = i + ys.length := by rw [List.length_append, hl0, q2]
    have hlen : ((fd B32 i A ++ (maUp B32 x W ys ys.length).1) ++ (W.drop ys.length ++ (0 : Int) :: R)).length = xs.length + ys.length := by
      rw [List.length_append, hAl, List.length_append, List.length_drop, List.length_cons, hlw, hRl]
      omega
    have e1 : ¬ ((ys.length : Int) < (ys.length : Int)) := by omega
    have e3 : (0 : Int) ≤ ((i + ys.length : Nat) : Int) := by omega
    have e4 : ((i + ys.length : Nat) : Int) < ((xs.length + ys.length : Nat) : Int) := by omega
    rw [hlen, ← Int.natCast_add i ys.length, wr (x := ((i + ys.length : Nat) : Int)) (by omega) (by omega)]
    simp only [e1, e3, e4, decide_true, decide_false, if_true, if_false, Bool.false_eq_true, Nat.zero_add, Int.toNat_natCast]
    rw [List.drop_of_length_le (by omega), List.nil_append, mid_set hAl, w32 (by omega) (by omega), wr (x := (i : Int) + 1) (by omega) (by omega)]
    generalize maUp B32 x W ys ys.length = p at *
    obtain ⟨pl, c0⟩ := p
    dsimp only at *
    have hlt := dval_lt q1
    rw [q2] at hlt
    have hpl : pl = fd B32 ys.length (A / B32 ^ i + x * dval B32 ys) := by
      have := fd_eq B32_le q1 q2 rfl
      rw [this, ← q3, ← fd_mod B32 ys.length (_ + _), Nat.add_mul_mod_self_left, fd_mod]
    have hc0 : c0 = (A / B32 ^ i + x * dval B32 ys) / B32 ^ ys.length := by
      rw [← q3, Nat.add_mul_div_left _ _ (Nat.pow_pos (by decide)), Nat.div_eq_of_lt hlt, Nat.zero_add]
    rw [List.append_assoc _ [_], List.singleton_append, hpl, hc0, hnext]
    exact hg) hK
  rw [show (fd B32 i A ++ (maUp B32 x W ys 0).1) ++ (W.drop 0 ++ (0 : Int) :: R) = (fd B32 i A ++ W) ++ (0 : Int) :: R by rw [show (maUp B32 x W ys 0).1 = [] from rfl, List.append_nil, List.drop_zero, List.append_assoc]] at key
  exact key
def S.i_nat_mul (x : ((List Int) × ((List Int) × Unit))) : (Option ((List Int) × Unit)) := if dig B32 x.1 = true ∧ dig B32 x.2.1 = true ∧ x.1.length ≤ 10000000000 ∧ x.2.1.length ≤ 10000000000 then some (nd B32 (dval B32 x.1 * dval B32 x.2.1), ()) else none
theorem S.i_nat_mul_ok (x : ((List Int) × ((List Int) × Unit))) (r : _) (h : S.i_nat_mul x = some r) : ∃ k, P.i_nat_mul k x = some r := by
  obtain ⟨xs, ys, u⟩ := x
  unfold S.i_nat_mul at h
  dsimp only at h
  split at h
  case isFalse => cases h
  rename_i hc
  obtain ⟨dx, dy, lx, ly⟩ := hc
  cases h
  refine ⟨xs.length + ys.length + 1, ?_⟩
  unfold P.i_nat_mul
  dsimp only
  have a1 : (0 : Int) ≤ ((xs.length + ys.length : Nat) : Int) := by omega
  have a2 : ((xs.length + ys.length : Nat) : Int) * 4 ≤ 281474976710656 := by omega
  rw [← Int.natCast_add, wr (x := ((xs.length + ys.length : Nat) : Int)) (by omega) (by omega)]
  simp only [a1, a2, decide_true, if_true, Int.le_refl, Int.toNat_natCast]
  have key := loop_up0 (k := xs.length + ys.length + 1) (b := P.i_nat_mul_b0 (xs.length + ys.length + 1)) (n := xs.length) (st := fun i => ((i : Int), (xs.length : Int), xs, ys, fd B32 (xs.length + ys.length) (dval B32 (xs.take i) * dval B32 ys), ())) (F := fun i => some (nd B32 (dval B32 xs * dval B32 ys), ())) (fun i g hi hg => by
    unfold P.i_nat_mul_b0
    dsimp only at hg ⊢
    have e1 : (i : Int) < (xs.length : Int) := by omega
    have e2 : (0 : Int) ≤ (i : Int) := by omega
    simp only [e1, e2, decide_true, if_true, Int.toNat_natCast]
    exact im_inner g _ dx dy lx ly hi _ (by omega) hg) (fun g => by
    unfold P.i_nat_mul_b0
    dsimp only
    rw [if_neg (by simp), List.take_length]
    unfold S.i_nat_trim
    dsimp only
    have hb := mul_bound B32_le dx dy xs.length (Nat.le_refl _)
    rw [List.take_length] at hb
    rw [if_pos ⟨dig_fd (by decide) _ _, by rw [fd_len]; omega⟩, Option.bind_some, nd_fd B32_le hb]) (by omega)
  rw [List.take_zero, show dval B32 [] * dval B32 ys = 0 by simp [dval], fd_zero] at key
  exact key
abbrev P.i_readNat_b7 (g5 : ((ByteArray × ((List Int) × Unit)) → (Option (((List Int) × Bool) × Unit)))) (x8 : (Int × (Int × (Int × ((List Int) × (Int × (ByteArray × (Int × Unit)))))))) (g9 : (Int × (Int × (Int × ((List Int) × (Int × (ByteArray × (Int × Unit))))))) → Option (((List Int) × Bool) × Unit)) : Option (((List Int) × Bool) × Unit) :=
 (if ((decide (x8.1 < x8.2.1)) = true) then (g9 ((Go.IntKind.wrap Go.IntKind.i64 (x8.1 + (1 : Int))) , (x8.2.1 , ((Go.IntKind.wrap Go.IntKind.u64 (x8.2.2.1 * (10 : Int))) , (x8.2.2.2.1 , (x8.2.2.2.2.1 , (x8.2.2.2.2.2.1 , (x8.2.2.2.2.2.2.1 , ()))))))))
 else (Option.bind (S.i_natOf (x8.2.2.1 , ())) (fun (y10 : ((List Int) × Unit)) => (Option.bind (S.i_nat_mul (x8.2.2.2.1 , (y10.1 , ()))) (fun (y11 : ((List Int) × Unit)) => (Option.bind (S.i_natOf (x8.2.2.2.2.1 , ())) (fun (y12 : ((List Int) × Unit)) => (Option.bind (S.i_nat_add (y11.1 , (y12.1 , ()))) (fun (y13 : ((List Int) × Unit)) => (if ((decide ((0 : Int) ≤ (((ByteArray.size x8.2.2.2.2.2.1) : Nat) : Int))) = true) then (if ((decide ((((ByteArray.size x8.2.2.2.2.2.1) : Nat) : Int) ≤ (((ByteArray.size x8.2.2.2.2.2.1) : Nat) : Int))) = true) then (if ((decide ((0 : Int) ≤ x8.2.2.2.2.2.2.1)) = true) then (if ((decide (x8.2.2.2.2.2.2.1 ≤ (((ByteArray.size x8.2.2.2.2.2.1) : Nat) : Int))) = true) then (g5 ((ByteArray.extract x8.2.2.2.2.2.1 (Int.toNat x8.2.2.2.2.2.2.1) (Int.toNat (((ByteArray.size x8.2.2.2.2.2.1) : Nat) : Int))) , (y13.1 , ())))
 else none)
 else none)
 else none)
 else none))))))))))
abbrev P.i_readNat_b15 (g5 : ((ByteArray × ((List Int) × Unit)) → (Option (((List Int) × Bool) × Unit)))) (x16 : (Int × (Int × (Int × ((List Int) × (Int × (ByteArray × (Int × Unit)))))))) (g17 : (Int × (Int × (Int × ((List Int) × (Int × (ByteArray × (Int × Unit))))))) → Option (((List Int) × Bool) × Unit)) : Option (((List Int) × Bool) × Unit) :=
 (if ((decide (x16.1 < x16.2.1)) = true) then (g17 ((Go.IntKind.wrap Go.IntKind.i64 (x16.1 + (1 : Int))) , (x16.2.1 , ((Go.IntKind.wrap Go.IntKind.u64 (x16.2.2.1 * (10 : Int))) , (x16.2.2.2.1 , (x16.2.2.2.2.1 , (x16.2.2.2.2.2.1 , (x16.2.2.2.2.2.2.1 , ()))))))))
 else (Option.bind (S.i_natOf (x16.2.2.1 , ())) (fun (y18 : ((List Int) × Unit)) => (Option.bind (S.i_nat_mul (x16.2.2.2.1 , (y18.1 , ()))) (fun (y19 : ((List Int) × Unit)) => (Option.bind (S.i_natOf (x16.2.2.2.2.1 , ())) (fun (y20 : ((List Int) × Unit)) => (Option.bind (S.i_nat_add (y19.1 , (y20.1 , ()))) (fun (y21 : ((List Int) × Unit)) => (if ((decide ((0 : Int) ≤ (((ByteArray.size x16.2.2.2.2.2.1) : Nat) : Int))) = true) then (if ((decide ((((ByteArray.size x16.2.2.2.2.2.1) : Nat) : Int) ≤ (((ByteArray.size x16.2.2.2.2.2.1) : Nat) : Int))) = true) then (if ((decide ((0 : Int) ≤ x16.2.2.2.2.2.2.1)) = true) then (if ((decide (x16.2.2.2.2.2.2.1 ≤ (((ByteArray.size x16.2.2.2.2.2.1) : Nat) : Int))) = true) then (g5 ((ByteArray.extract x16.2.2.2.2.2.1 (Int.toNat x16.2.2.2.2.2.2.1) (Int.toNat (((ByteArray.size x16.2.2.2.2.2.1) : Nat) : Int))) , (y21.1 , ())))
 else none)
 else none)
 else none)
 else none))))))))))
abbrev P.i_readNat_b3 (k : Nat) (x4 : (ByteArray × ((List Int) × Unit))) (g5 : (ByteArray × ((List Int) × Unit)) → Option (((List Int) × Bool) × Unit)) : Option (((List Int) × Bool) × Unit) :=
 (if ((!((ByteArray.toList x4.1) == (ByteArray.toList (bs [])))) = true) then (if (((Int.tmod (((ByteArray.size x4.1) : Nat) : Int) (9 : Int)) == (0 : Int)) = true) then (if ((decide ((9 : Int) ≤ (((ByteArray.size x4.1) : Nat) : Int))) = true) then (Option.bind (S.strconv_ParseUint ((ByteArray.extract x4.1 (0 : Nat) (9 : Nat)) , ((10 : Int) , ((64 : Int) , ())))) (fun (y6 : ((Int × Bool) × Unit)) => (loopP (X := (Int × (Int × (Int × ((List Int) × (Int × (ByteArray × (Int × Unit)))))))) (R := (((List Int) × Bool) × Unit)) (P.i_readNat_b7 g5) k ((0 : Int) , ((9 : Int) , ((1 : Int) , (x4.2.1 , (y6.1.1 , (x4.1 , ((9 : Int) , ()))))))))))
 else none)
 else (if ((decide ((0 : Int) ≤ (Int.tmod (((ByteArray.size x4.1) : Nat) : Int) (9 : Int)))) = true) then (if ((decide ((Int.tmod (((ByteArray.size x4.1) : Nat) : Int) (9 : Int)) ≤ (((ByteArray.size x4.1) : Nat) : Int))) = true) then (if ((decide ((0 : Int) ≤ (Int.tmod (((ByteArray.size x4.1) : Nat) : Int) (9 : Int)))) = true) then (Option.bind (S.strconv_ParseUint ((ByteArray.extract x4.1 (0 : Nat) (Int.toNat (Int.tmod (((ByteArray.size x4.1) : Nat) : Int) (9 : Int)))) , ((10 : Int) , ((64 : Int) , ())))) (fun (y14 : ((Int × Bool) × Unit)) => (loopP (X := (Int × (Int × (Int × ((List Int) × (Int × (ByteArray × (Int × Unit)))))))) (R := (((List Int) × Bool) × Unit)) (P.i_readNat_b15 g5) k ((0 : Int) , ((Int.tmod (((ByteArray.size x4.1) : Nat) : Int) (9 : Int)) , ((1 : Int) , (x4.2.1 , (y14.1.1 , (x4.1 , ((Int.tmod (((ByteArray.size x4.1) : Nat) : Int) (9 : Int)) , ()))))))))))
 else none)
 else none)
 else none))
 else (some ((x4.2.1 , true) , ())))
abbrev P.i_readNat_b0 (k : Nat) (x1 : (Int × (Int × (ByteArray × ((List Int) × Unit))))) (g2 : (Int × (Int × (ByteArray × ((List Int) × Unit)))) → Option (((List Int) × Bool) × Unit)) : Option (((List Int) × Bool) × Unit) :=
 (if ((decide (x1.1 < x1.2.1)) = true) then (if ((decide ((0 : Int) ≤ x1.1)) = true) then (if ((decide (x1.1 < (((ByteArray.size x1.2.2.1) : Nat) : Int))) = true) then (if ((decide ((byteAt x1.2.2.1 x1.1) < (48 : Int))) = true) then (some ((([] : List Int) , false) , ()))
 else (if ((decide ((0 : Int) ≤ x1.1)) = true) then (if ((decide (x1.1 < (((ByteArray.size x1.2.2.1) : Nat) : Int))) = true) then (if ((decide ((byteAt x1.2.2.1 x1.1) > (57 : Int))) = true) then (some ((([] : List Int) , false) , ()))
 else (g2 ((Go.IntKind.wrap Go.IntKind.i64 (x1.1 + (1 : Int))) , (x1.2.1 , (x1.2.2.1 , (x1.2.2.2.1 , ()))))))
 else none)
 else none))
 else none)
 else none)
 else (loopP (X := (ByteArray × ((List Int) × Unit))) (R := (((List Int) × Bool) × Unit)) (P.i_readNat_b3 k) k (x1.2.2.1 , (x1.2.2.2.1 , ()))))
abbrev P.i_readNat_b29 (g27 : ((ByteArray × ((List Int) × Unit)) → (Option (((List Int) × Bool) × Unit)))) (x30 : (Int × (Int × (Int × ((List Int) × (Int × (ByteArray × (Int × Unit)))))))) (g31 : (Int × (Int × (Int × ((List Int) × (Int × (ByteArray × (Int × Unit))))))) → Option (((List Int) × Bool) × Unit)) : Option (((List Int) × Bool) × Unit) :=
 (if ((decide (x30.1 < x30.2.1)) = true) then (g31 ((Go.IntKind.wrap Go.IntKind.i64 (x30.1 + (1 : Int))) , (x30.2.1 , ((Go.IntKind.wrap Go.IntKind.u64 (x30.2.2.1 * (10 : Int))) , (x30.2.2.2.1 , (x30.2.2.2.2.1 , (x30.2.2.2.2.2.1 , (x30.2.2.2.2.2.2.1 , ()))))))))
 else (Option.bind (S.i_natOf (x30.2.2.1 , ())) (fun (y32 : ((List Int) × Unit)) => (Option.bind (S.i_nat_mul (x30.2.2.2.1 , (y32.1 , ()))) (fun (y33 : ((List Int) × Unit)) => (Option.bind (S.i_natOf (x30.2.2.2.2.1 , ())) (fun (y34 : ((List Int) × Unit)) => (Option.bind (S.i_nat_add (y33.1 , (y34.1 , ()))) (fun (y35 : ((List Int) × Unit)) => (if ((decide ((0 : Int) ≤ (((ByteArray.size x30.2.2.2.2.2.1) : Nat) : Int))) = true) then (if ((decide ((((ByteArray.size x30.2.2.2.2.2.1) : Nat) : Int) ≤ (((ByteArray.size x30.2.2.2.2.2.1) : Nat) : Int))) = true) then (if ((decide ((0 : Int) ≤ x30.2.2.2.2.2.2.1)) = true) then (if ((decide (x30.2.2.2.2.2.2.1 ≤ (((ByteArray.size x30.2.2.2.2.2.1) : Nat) : Int))) = true) then (g27 ((ByteArray.extract x30.2.2.2.2.2.1 (Int.toNat x30.2.2.2.2.2.2.1) (Int.toNat (((ByteArray.size x30.2.2.2.2.2.1) : Nat) : Int))) , (y35.1 , ())))
 else none)
 else none)
 else none)
 else none))))))))))
abbrev P.i_readNat_b37 (g27 : ((ByteArray × ((List Int) × Unit)) → (Option (((List Int) × Bool) × Unit)))) (x38 : (Int × (Int × (Int × ((List Int) × (Int × (ByteArray × (Int × Unit)))))))) (g39 : (Int × (Int × (Int × ((List Int) × (Int × (ByteArray × (Int × Unit))))))) → Option (((List Int) × Bool) × Unit)) : Option (((List Int) × Bool) × Unit) :=
 (if ((decide (x38.1 < x38.2.1)) = true) then (g39 ((Go.IntKind.wrap Go.IntKind.i64 (x38.1 + (1 : Int))) , (x38.2.1 , ((Go.IntKind.wrap Go.IntKind.u64 (x38.2.2.1 * (10 : Int))) , (x38.2.2.2.1 , (x38.2.2.2.2.1 , (x38.2.2.2.2.2.1 , (x38.2.2.2.2.2.2.1 , ()))))))))
 else (Option.bind (S.i_natOf (x38.2.2.1 , ())) (fun (y40 : ((List Int) × Unit)) => (Option.bind (S.i_nat_mul (x38.2.2.2.1 , (y40.1 , ()))) (fun (y41 : ((List Int) × Unit)) => (Option.bind (S.i_natOf (x38.2.2.2.2.1 , ())) (fun (y42 : ((List Int) × Unit)) => (Option.bind (S.i_nat_add (y41.1 , (y42.1 , ()))) (fun (y43 : ((List Int) × Unit)) => (if ((decide ((0 : Int) ≤ (((ByteArray.size x38.2.2.2.2.2.1) : Nat) : Int))) = true) then (if ((decide ((((ByteArray.size x38.2.2.2.2.2.1) : Nat) : Int) ≤ (((ByteArray.size x38.2.2.2.2.2.1) : Nat) : Int))) = true) then (if ((decide ((0 : Int) ≤ x38.2.2.2.2.2.2.1)) = true) then (if ((decide (x38.2.2.2.2.2.2.1 ≤ (((ByteArray.size x38.2.2.2.2.2.1) : Nat) : Int))) = true) then (g27 ((ByteArray.extract x38.2.2.2.2.2.1 (Int.toNat x38.2.2.2.2.2.2.1) (Int.toNat (((ByteArray.size x38.2.2.2.2.2.1) : Nat) : Int))) , (y43.1 , ())))
 else none)
 else none)
 else none)
 else none))))))))))
abbrev P.i_readNat_b25 (k : Nat) (x26 : (ByteArray × ((List Int) × Unit))) (g27 : (ByteArray × ((List Int) × Unit)) → Option (((List Int) × Bool) × Unit)) : Option (((List Int) × Bool) × Unit) :=
 (if ((!((ByteArray.toList x26.1) == (ByteArray.toList (bs [])))) = true) then (if (((Int.tmod (((ByteArray.size x26.1) : Nat) : Int) (9 : Int)) == (0 : Int)) = true) then (if ((decide ((9 : Int) ≤ (((ByteArray.size x26.1) : Nat) : Int))) = true) then (Option.bind (S.strconv_ParseUint ((ByteArray.extract x26.1 (0 : Nat) (9 : Nat)) , ((10 : Int) , ((64 : Int) , ())))) (fun (y28 : ((Int × Bool) × Unit)) => (loopP (X := (Int × (Int × (Int × ((List Int) × (Int × (ByteArray × (Int × Unit)))))))) (R := (((List Int) × Bool) × Unit)) (P.i_readNat_b29 g27) k ((0 : Int) , ((9 : Int) , ((1 : Int) , (x26.2.1 , (y28.1.1 , (x26.1 , ((9 : Int) , ()))))))))))
 else none)
 else (if ((decide ((0 : Int) ≤ (Int.tmod (((ByteArray.size x26.1) : Nat) : Int) (9 : Int)))) = true) then (if ((decide ((Int.tmod (((ByteArray.size x26.1) : Nat) : Int) (9 : Int)) ≤ (((ByteArray.size x26.1) : Nat) : Int))) = true) then (if ((decide ((0 : Int) ≤ (Int.tmod (((ByteArray.size x26.1) : Nat) : Int) (9 : Int)))) = true) then (Option.bind (S.strconv_ParseUint ((ByteArray.extract x26.1 (0 : Nat) (Int.toNat (Int.tmod (((ByteArray.size x26.1) : Nat) : Int) (9 : Int)))) , ((10 : Int) , ((64 : Int) , ())))) (fun (y36 : ((Int × Bool) × Unit)) => (loopP (X := (Int × (Int × (Int × ((List Int) × (Int × (ByteArray × (Int × Unit)))))))) (R := (((List Int) × Bool) × Unit)) (P.i_readNat_b37 g27) k ((0 : Int) , ((Int.tmod (((ByteArray.size x26.1) : Nat) : Int) (9 : Int)) , ((1 : Int) , (x26.2.1 , (y36.1.1 , (x26.1 , ((Int.tmod (((ByteArray.size x26.1) : Nat) : Int) (9 : Int)) , ()))))))))))
 else none)
 else none)
 else none))
 else (some ((x26.2.1 , true) , ())))
abbrev P.i_readNat_b22 (k : Nat) (x23 : (Int × (Int × (ByteArray × ((List Int) × Unit))))) (g24 : (Int × (Int × (ByteArray × ((List Int) × Unit)))) → Option (((List Int) × Bool) × Unit)) : Option (((List Int) × Bool) × Unit) :=
 (if ((decide (x23.1 < x23.2.1)) = true) then (if ((decide ((0 : Int) ≤ x23.1)) = true) then (if ((decide (x23.1 < (((ByteArray.size x23.2.2.1) : Nat) : Int))) = true) then (if ((decide ((byteAt x23.2.2.1 x23.1) < (48 : Int))) = true) then (some ((([] : List Int) , false) , ()))
 else (if ((decide ((0 : Int) ≤ x23.1)) = true) then (if ((decide (x23.1 < (((ByteArray.size x23.2.2.1) : Nat) : Int))) = true) then (if ((decide ((byteAt x23.2.2.1 x23.1) > (57 : Int))) = true) then (some ((([] : List Int) , false) , ()))
 else (g24 ((Go.IntKind.wrap Go.IntKind.i64 (x23.1 + (1 : Int))) , (x23.2.1 , (x23.2.2.1 , (x23.2.2.2.1 , ()))))))
 else none)
 else none))
 else none)
 else none)
 else (loopP (X := (ByteArray × ((List Int) × Unit))) (R := (((List Int) × Bool) × Unit)) (P.i_readNat_b25 k) k (x23.2.2.1 , (x23.2.2.2.1 , ()))))
def P.i_readNat (k : Nat) (x : (ByteArray × Unit)) : (Option (((List Int) × Bool) × Unit)) :=
 (if (((ByteArray.toList x.1) == (ByteArray.toList (bs []))) = true) then (some ((([] : List Int) , false) , ()))
 else (if ((decide ((((ByteArray.size x.1) : Nat) : Int) > (200 : Int))) = true) then (some ((([] : List Int) , false) , ()))
 else (if ((decide ((0 : Int) < (((ByteArray.size x.1) : Nat) : Int))) = true) then (if (((byteAt x.1 (0 : Int)) == (48 : Int)) = true) then (if ((decide ((((ByteArray.size x.1) : Nat) : Int) > (1 : Int))) = true) then (some ((([] : List Int) , false) , ()))
 else (loopP (X := (Int × (Int × (ByteArray × ((List Int) × Unit))))) (R := (((List Int) × Bool) × Unit)) (P.i_readNat_b0 k) k ((0 : Int) , ((((ByteArray.size x.1) : Nat) : Int) , (x.1 , (([] : List Int) , ()))))))
 else (loopP (X := (Int × (Int × (ByteArray × ((List Int) × Unit))))) (R := (((List Int) × Bool) × Unit)) (P.i_readNat_b22 k) k ((0 : Int) , ((((ByteArray.size x.1) : Nat) : Int) , (x.1 , (([] : List Int) , ()))))))
 else none)))
theorem rn_len {p m : Nat} (h : p < 10 ^ m) : (nd B32 p).length ≤ m := by
  rw [nd_len B32_le]
  exact Nat.lt_of_lt_of_le h (Nat.pow_le_pow_left (by decide) _)
theorem rn_times (g : ((ByteArray × ((List Int) × Unit)) → (Option (((List Int) × Bool) × Unit)))) (t : ByteArray) (p v n : Nat) (hn : n ≤ 9) (hv : v < 10 ^ n) (hp : p < 10 ^ 200) (hnl : n ≤ t.size) (K : Nat) (hK : n < K) :
    loopP (P.i_readNat_b7 g) K ((0 : Int), ((n : Int), ((1 : Int), (nd B32 p, ((v : Int), (t, ((n : Int), ()))))))) = g (ByteArray.extract t n t.size, (nd B32 (p * 10 ^ n + v), ())) := by
  have hp9 : 10 ^ n ≤ 10 ^ 9 := Nat.pow_le_pow_right (by decide) hn
  have h9 : (10 : Nat) ^ 9 = 1000000000 := by decide
  have key := loop_up0 (k := K) (b := P.i_readNat_b7 g) (n := n) (st := fun i => ((i : Int), (n : Int), ((10 ^ i : Nat) : Int), nd B32 p, (v : Int), t, (n : Int), ())) (F := fun i => g (ByteArray.extract t n t.size, (nd B32 (p * 10 ^ n + v), ()))) (fun i g' hi hg' => by
    unfold P.i_readNat_b7
    dsimp only at hg' ⊢
    refine Eq.trans ?_ hg'
    have e1 : (i : Int) < (n : Int) := by omega
    have hpi : 10 ^ (i + 1) ≤ 10 ^ 9 := Nat.pow_le_pow_right (by decide) (by omega)
    rw [Nat.pow_succ] at hpi ⊢
    rw [if_pos (decide_eq_true e1), wr (by omega) (by omega), show ((10 ^ i : Nat) : Int) * 10 = ((10 ^ i * 10 : Nat) : Int) by omega, wu (by omega) (by omega)]
    rfl) (fun g' => by
    unfold P.i_readNat_b7
    dsimp only
    rw [if_neg (by simp)]
    unfold S.i_natOf S.i_nat_mul S.i_nat_add
    dsimp only
    have hl1 := rn_len hp
    have hl2 := rn_len (p := 10 ^ n) (m := 10) (by omega)
    have hl3 : (nd B32 (p * 10 ^ n)).length ≤ 209 := rn_len (by
      have : p * 10 ^ n < 10 ^ 200 * 10 ^ 9 := Nat.mul_lt_mul_of_lt_of_le hp hp9 (Nat.pow_pos (by decide))
      rwa [← Nat.pow_add] at this)
    have hl4 := rn_len (p := v) (m := 9) (by omega)
    rw [if_pos ⟨by omega, by omega⟩, Option.bind_some, Int.toNat_natCast]
    dsimp only
    rw [if_pos ⟨dig_nd B32_le _, dig_nd B32_le _, by omega, by omega⟩, Option.bind_some, if_pos ⟨by omega, by omega⟩, Option.bind_some, Int.toNat_natCast]
    dsimp only
    rw [dval_nd B32_le, dval_nd B32_le, if_pos ⟨dig_nd B32_le _, dig_nd B32_le _, by omega, by omega⟩, Option.bind_some, dval_nd B32_le, dval_nd B32_le]
    have c1 : (0 : Int) ≤ (t.size : Int) := by omega
    have c2 : (0 : Int) ≤ (n : Int) := by omega
    have c3 : (n : Int) ≤ (t.size : Int) := by omega
    rw [if_pos (decide_eq_true c1), if_pos (decide_eq_true (Int.le_refl _)), if_pos (decide_eq_true c2), if_pos (decide_eq_true c3), Int.toNat_natCast, Int.toNat_natCast]) hK
  exact key
theorem rn_loop (K : Nat) (hK : 10 ≤ K) (m : Nat) : ∀ (t : ByteArray) (p k : Nat), t.data.toList.length = m → allD t.data.toList = true → m ≤ 200 → p < 10 ^ (200 - m) → m < k →
    loopP (P.i_readNat_b3 K) k (t, (nd B32 p, ())) = some ((nd B32 (p * 10 ^ m + dv t.data.toList), true), ()) := by
  induction m using Nat.strongRecOn with
  | ind m ih =>
    intro t p k hm hd hm2 hp hk
    obtain ⟨k, rfl⟩ : ∃ j, k = j + 1 := ⟨k - 1, by omega⟩
    rw [loopP_succ]
    have hs : t.size = t.data.toList.length := by rw [Array.length_toList]; rfl
    have hstep : ∀ n : Nat, 0 < n → n ≤ 9 → n ≤ m → Option.bind (S.strconv_ParseUint (ByteArray.extract t 0 n, (10, (64, ())))) (fun (y6 : ((Int × Bool) × Unit)) => (Go.Cm.loopP (P.i_readNat_b7 (loopP (P.i_readNat_b3 K) k)) K ((0 : Int) , ((n : Int) , ((1 : Int) , (nd B32 p , (y6.1.1 , (t , ((n : Int) , ()))))))))) = some ((nd B32 (p * 10 ^ m + dv t.data.toList), true), ()) := by
      intro n hn0 hn9 hnm
      have hx : (ByteArray.extract t 0 n).data.toList = t.data.toList.take n := by rw [ext_list, List.drop_zero]
      have hxl : (t.data.toList.take n).length = n := by simp; omega
      have hxs : (ByteArray.extract t 0 n).size = n := by
        have : (ByteArray.extract t 0 n).size = (ByteArray.extract t 0 n).data.toList.length := by rw [Array.length_toList]; rfl
        rw [this, hx, hxl]
      have hdx := allD_take hd n
      have hpar := parse_dv (t.data.toList.take n) hdx (by intro q; rw [q] at hxl; simp at hxl; omega) (by omega)
      unfold S.strconv_ParseUint
      dsimp only
      rw [if_pos ⟨rfl, rfl, by omega⟩, hx, hpar, Option.bind_some]
      dsimp only
      have hv := dv_lt hdx
      rw [hxl] at hv
      have hp200 : p < 10 ^ 200 := Nat.lt_of_lt_of_le hp (Nat.pow_le_pow_right (by decide) (by omega))
      rw [rn_times _ t p _ n hn9 hv hp200 (by omega) K (by omega)]
      have hd2 : (ByteArray.extract t n t.size).data.toList = t.data.toList.drop n := by
        rw [ext_list, List.take_of_length_le (by omega)]
      have hl2 : (t.data.toList.drop n).length = m - n := by simp; omega
      have hb : p * 10 ^ n + dv (t.data.toList.take n) < 10 ^ (200 - (m - n)) := by
        have h1 : (p + 1) * 10 ^ n ≤ 10 ^ (200 - m) * 10 ^ n := Nat.mul_le_mul_right _ hp
        rw [← Nat.pow_add, show 200 - m + n = 200 - (m - n) by omega, Nat.add_mul, Nat.one_mul] at h1
        omega
      rw [ih (m - n) (by omega) _ _ k (by rw [hd2, hl2]) (by rw [hd2]; exact allD_drop hd n) (by omega) hb (by omega), hd2]
      have h3 := dv_append (t.data.toList.take n) (t.data.toList.drop n)
      rw [List.take_append_drop, hl2] at h3
      rw [h3, Nat.add_mul, Nat.mul_assoc, ← Nat.pow_add, show n + (m - n) = m by omega, Nat.add_assoc]
    generalize loopP (P.i_readNat_b3 K) k = G at hstep ⊢
    unfold P.i_readNat_b3
    dsimp only
    have hbs : ByteArray.toList (bs []) = [] := by rw [ByteArray.toList_eq]; rfl
    rw [hbs, ByteArray.toList_eq, hs, hm]
    by_cases h0 : m = 0
    · subst h0
      have : t.data.toList = [] := List.eq_nil_of_length_eq_zero hm
      rw [this, if_neg (by simp), Nat.pow_zero, Nat.mul_one, show dv [] = 0 from rfl, Nat.add_zero]
    · have hne : t.data.toList ≠ [] := by
        intro q
        rw [q] at hm
        simp at hm
        omega
      have hmod : Int.tmod (m : Int) 9 = ((m % 9 : Nat) : Int) := by
        rw [Int.tmod_eq_emod_of_nonneg (by omega)]
        omega
      rw [if_pos (by simpa using hne), hmod]
      by_cases h9 : m % 9 = 0
      · have c1 : (9 : Int) ≤ (m : Int) := by omega
        rw [if_pos (by simp [h9]), if_pos (decide_eq_true c1)]
        exact hstep 9 (by omega) (by omega) (by omega)
      · have c1 : (0 : Int) ≤ ((m % 9 : Nat) : Int) := by omega
        have c2 : ((m % 9 : Nat) : Int) ≤ (m : Int) := by omega
        rw [if_neg (by simp; omega), if_pos (decide_eq_true c1), if_pos (decide_eq_true c2), if_pos (decide_eq_true c1), Int.toNat_natCast]
        exact hstep (m % 9) (by omega) (by omega) (by omega)
theorem rn_scan (b : Nat → (Int × (Int × (ByteArray × ((List Int) × Unit)))) → ((Int × (Int × (ByteArray × ((List Int) × Unit)))) → Option (((List Int) × Bool) × Unit)) → Option (((List Int) × Bool) × Unit)) (hbb : b = P.i_readNat_b0) (t : ByteArray) (hl : t.data.toList.length ≤ 200) (K : Nat) (hK : 300 ≤ K) :
    loopP (b K) K ((0 : Int), ((t.size : Int), (t, ([], ())))) = some (if allD t.data.toList = true then (nd B32 (dv t.data.toList), true) else ([], false), ()) := by
  subst hbb
  have hs : t.size = t.data.toList.length := by rw [Array.length_toList]; rfl
  rw [hs]
  have hloop := rn_loop K (by omega) t.data.toList.length t 0 K rfl
  generalize hL : t.data.toList = l at *
  have key : ∀ d i k : Nat, i + d = l.length → d < k → allD (l.take i) = true → loopP (P.i_readNat_b0 K) k ((i : Int), ((l.length : Int), (t, (([] : List Int), ())))) = some (if allD l = true then (nd B32 (dv l), true) else ([], false), ()) := by
    intro d
    induction d with
    | zero =>
      intro i k hi hk hd
      obtain ⟨k, rfl⟩ : ∃ j, k = j + 1 := ⟨k - 1, by omega⟩
      have : i = l.length := by omega
      subst this
      rw [List.take_length] at hd
      rw [loopP_succ]
      unfold P.i_readNat_b0
      dsimp only
      rw [if_neg (by simp), if_pos hd]
      have := hloop hd hl (Nat.pow_pos (by decide)) (by omega)
      rw [nd_zero B32_le, Nat.zero_mul, Nat.zero_add] at this
      exact this
    | succ d ih =>
      intro i k hi hk hd
      obtain ⟨k, rfl⟩ : ∃ j, k = j + 1 := ⟨k - 1, by omega⟩
      have hil : i < l.length := by omega
      rw [loopP_succ]
      unfold P.i_readNat_b0
      dsimp only
      have e1 : (i : Int) < (l.length : Int) := by omega
      have e2 : (0 : Int) ≤ (i : Int) := by omega
      have hb : byteAt t (i : Int) = (l[i].toNat : Int) := by
        unfold byteAt
        rw [hL, getD_cast l i _ hil]
      have ha2 : allD (l.take (i + 1)) = (allD (l.take i) && isD l[i]) := by
        rw [← List.take_append_getElem hil, allD_append]
        simp [allD]
      have ha3 : allD l = true → isD l[i] = true := fun q => decide_eq_true (allD_get q hil)
      rw [hs, hb, wr (x := (i : Int) + 1) (by omega) (by omega)]
      simp only [e1, e2, decide_true, if_true]
      by_cases c1 : 48 ≤ l[i].toNat
      · rw [if_neg (by simp; omega)]
        by_cases c2 : l[i].toNat ≤ 57
        · have : isD l[i] = true := decide_eq_true ⟨c1, c2⟩
          rw [this, Bool.and_true] at ha2
          rw [if_neg (by simp; omega)]
          exact ih (i + 1) k (by omega) (by omega) (by rw [ha2]; exact hd)
        · have : isD l[i] = false := decide_eq_false (fun q => c2 q.2)
          rw [if_pos (decide_eq_true (by omega)), if_neg (fun q => by rw [ha3 q] at this; cases this)]
      · have : isD l[i] = false := decide_eq_false (fun q => c1 q.1)
        rw [if_pos (decide_eq_true (by omega)), if_neg (fun q => by rw [ha3 q] at this; cases this)]
  exact key l.length 0 K (by omega) (by omega) rfl
def S.i_readNat (x : (ByteArray × Unit)) : (Option (((List Int) × Bool) × Unit)) := some (if okN x.1.data.toList = true then (nd B32 (dv x.1.data.toList), true) else ([], false), ())
theorem S.i_readNat_ok (x : (ByteArray × Unit)) (r : _) (h : S.i_readNat x = some r) : ∃ k, P.i_readNat k x = some r := by
  obtain ⟨t, u⟩ := x
  unfold S.i_readNat at h
  dsimp only at h
  refine ⟨300, ?_⟩
  rw [← h]
  unfold P.i_readNat
  dsimp only
  have hs : t.size = t.data.toList.length := by rw [Array.length_toList]; rfl
  have hbs : ByteArray.toList (bs []) = [] := by rw [ByteArray.toList_eq]; rfl
  rw [hbs, ByteArray.toList_eq]
  have hscan := rn_scan P.i_readNat_b0 rfl t
  have hscan2 := rn_scan P.i_readNat_b22 rfl t
  unfold okN okR
  by_cases h1 : t.data.toList = []
  · rw [h1, if_pos (by rfl)]
    rfl
  · have hpos : 0 < t.data.toList.length := List.length_pos_iff.2 h1
    rw [if_neg (by simpa using h1), decide_eq_true h1, Bool.true_and, hs]
    by_cases h2 : t.data.toList.length ≤ 200
    · have d2 : ¬ (t.data.toList.length : Int) > 200 := by omega
      have d3 : (0 : Int) < (t.data.toList.length : Int) := by omega
      rw [if_neg (by simpa using d2), if_pos (decide_eq_true d3), decide_eq_true h2, Bool.true_and]
      have s1 := hscan h2 300 (by omega)
      have s2 := hscan2 h2 300 (by omega)
      rw [hs] at s1 s2
      have hb : byteAt t 0 = (t.data.toList[0].toNat : Int) := by
        exact congrArg (fun c : UInt8 => (c.toNat : Int)) (getD_cast t.data.toList 0 0 hpos)
      have hh : t.data.toList.head? = some t.data.toList[0] := by
        generalize t.data.toList = l at *
        cases l with
        | nil => simp at h1
        | cons c r => rfl
      rw [hb, hh]
      by_cases c1 : t.data.toList[0] = 48
      · rw [c1, if_pos (by rfl)]
        by_cases h3 : t.data.toList.length = 1
        · have d4 : ¬ (t.data.toList.length : Int) > 1 := by omega
          rw [if_neg (by simpa using d4), s1, decide_eq_true h3, Bool.true_or, Bool.and_true]
        · have d4 : (t.data.toList.length : Int) > 1 := by omega
          rw [if_pos (decide_eq_true d4), decide_eq_false h3, Bool.false_or, decide_eq_false (by simp), Bool.and_false, if_neg (by simp)]
      · have c2 : ¬ ((t.data.toList[0].toNat : Int) = 48) := by
          intro q
          apply c1
          apply UInt8.toNat_inj.1
          show _ = 48
          omega
        rw [if_neg (by simpa using c2), s2, decide_eq_true (p := some t.data.toList[0] ≠ some 48) (by simpa using c1), Bool.or_true, Bool.and_true]
    · have d2 : (t.data.toList.length : Int) > 200 := by omega
      rw [if_pos (decide_eq_true d2), decide_eq_false h2, Bool.false_and, Bool.and_false, if_neg (by simp)]
def P.i_readRat (k : Nat) (x : (ByteArray × Unit)) : (Option (((Bool × ((List Int) × (List Int))) × Bool) × Unit)) :=
 (Option.bind (S.strings_Cut (x.1 , ((bs [47]) , ()))) (fun (y0 : ((ByteArray × (ByteArray × Bool)) × Unit)) => (Option.bind (S.strings_CutPrefix (y0.1.1 , ((bs [45]) , ()))) (fun (y1 : ((ByteArray × Bool) × Unit)) => (Option.bind (S.i_readNat (y1.1.1 , ())) (fun (y2 : (((List Int) × Bool) × Unit)) => (if ((!y2.1.2) = true) then (some (((false , (([] : List Int) , ([] : List Int))) , false) , ()))
 else (if (y1.1.2 = true) then (if (((((List.length y2.1.1) : Nat) : Int) == (0 : Int)) = true) then (some (((false , (([] : List Int) , ([] : List Int))) , false) , ()))
 else (Option.bind (S.i_natOf ((1 : Int) , ())) (fun (y3 : ((List Int) × Unit)) => (if ((!y0.1.2.2) = true) then (some (((y1.1.2 , (y2.1.1 , y3.1)) , true) , ()))
 else (Option.bind (S.i_readNat (y0.1.2.1 , ())) (fun (y4 : (((List Int) × Bool) × Unit)) => (if ((!y4.1.2) = true) then (some (((false , (([] : List Int) , ([] : List Int))) , false) , ()))
 else (Option.bind (S.i_natOf ((1 : Int) , ())) (fun (y5 : ((List Int) × Unit)) => (Option.bind (S.i_nat_cmp (y4.1.1 , (y5.1 , ()))) (fun (y6 : (Int × Unit)) => (if ((decide (y6.1 ≤ (0 : Int))) = true) then (some (((false , (([] : List Int) , ([] : List Int))) , false) , ()))
 else (Option.bind (S.i_nat_gcd (y2.1.1 , (y4.1.1 , ()))) (fun (y7 : ((List Int) × Unit)) => (Option.bind (S.i_natOf ((1 : Int) , ())) (fun (y8 : ((List Int) × Unit)) => (Option.bind (S.i_nat_cmp (y7.1 , (y8.1 , ()))) (fun (y9 : (Int × Unit)) => (if ((y9.1 != (0 : Int)) = true) then (some (((false , (([] : List Int) , ([] : List Int))) , false) , ()))
 else (some (((y1.1.2 , (y2.1.1 , y4.1.1)) , true) , ())))))))))))))))))))))
 else (Option.bind (S.i_natOf ((1 : Int) , ())) (fun (y10 : ((List Int) × Unit)) => (if ((!y0.1.2.2) = true) then (some (((y1.1.2 , (y2.1.1 , y10.1)) , true) , ()))
 else (Option.bind (S.i_readNat (y0.1.2.1 , ())) (fun (y11 : (((List Int) × Bool) × Unit)) => (if ((!y11.1.2) = true) then (some (((false , (([] : List Int) , ([] : List Int))) , false) , ()))
 else (Option.bind (S.i_natOf ((1 : Int) , ())) (fun (y12 : ((List Int) × Unit)) => (Option.bind (S.i_nat_cmp (y11.1.1 , (y12.1 , ()))) (fun (y13 : (Int × Unit)) => (if ((decide (y13.1 ≤ (0 : Int))) = true) then (some (((false , (([] : List Int) , ([] : List Int))) , false) , ()))
 else (Option.bind (S.i_nat_gcd (y2.1.1 , (y11.1.1 , ()))) (fun (y14 : ((List Int) × Unit)) => (Option.bind (S.i_natOf ((1 : Int) , ())) (fun (y15 : ((List Int) × Unit)) => (Option.bind (S.i_nat_cmp (y14.1 , (y15.1 , ()))) (fun (y16 : (Int × Unit)) => (if ((y16.1 != (0 : Int)) = true) then (some (((false , (([] : List Int) , ([] : List Int))) , false) , ()))
 else (some (((y1.1.2 , (y2.1.1 , y11.1.1)) , true) , ()))))))))))))))))))))))))))))
def S.i_readRat (x : (ByteArray × Unit)) : (Option (((Bool × ((List Int) × (List Int))) × Bool) × Unit)) := if x.1.size < 4294967281 then some ((rp B32 (rdRat x.1.data.toList).1, (rdRat x.1.data.toList).2), ()) else none
theorem rr_bad : ((false, (([] : List Int), ([] : List Int))), false) = (rp B32 noQ.1, noQ.2) := by
  unfold noQ rp
  dsimp only
  rw [nd_zero B32_le]
theorem natOf_one : S.i_natOf (1, ()) = some (nd B32 1, ()) := by
  unfold S.i_natOf
  rfl
/-- What follows the first number. -/
theorem rr_rest (neg : Bool) (c : List UInt8 × List UInt8 × Bool) (hok : okN c.1 = true) (hn : ¬ (neg = true ∧ dv c.1 = 0)) :
    (Option.bind (S.i_natOf ((1 : Int) , ())) (fun (y10 : ((List Int) × Unit)) => (if ((!c.2.2) = true) then (some (((neg , (nd B32 (dv c.1) , y10.1)) , true) , ()))
 else (Option.bind (S.i_readNat ((⟨c.2.1.toArray⟩ : ByteArray) , ())) (fun (y11 : (((List Int) × Bool) × Unit)) => (if ((!y11.1.2) = true) then (some (((false , (([] : List Int) , ([] : List Int))) , false) , ()))
 else (Option.bind (S.i_natOf ((1 : Int) , ())) (fun (y12 : ((List Int) × Unit)) => (Option.bind (S.i_nat_cmp (y11.1.1 , (y12.1 , ()))) (fun (y13 : (Int × Unit)) => (if ((decide (y13.1 ≤ (0 : Int))) = true) then (some (((false , (([] : List Int) , ([] : List Int))) , false) , ()))
 else (Option.bind (S.i_nat_gcd (nd B32 (dv c.1) , (y11.1.1 , ()))) (fun (y14 : ((List Int) × Unit)) => (Option.bind (S.i_natOf ((1 : Int) , ())) (fun (y15 : ((List Int) × Unit)) => (Option.bind (S.i_nat_cmp (y14.1 , (y15.1 , ()))) (fun (y16 : (Int × Unit)) => (if ((y16.1 != (0 : Int)) = true) then (some (((false , (([] : List Int) , ([] : List Int))) , false) , ()))
 else (some (((neg , (nd B32 (dv c.1) , y11.1.1)) , true) , ())))))))))))))))))))) = some ((rp B32 (rdBody neg c).1, (rdBody neg c).2), ()) := by
  have hbody : rdBody neg c = (if c.2.2 = true then (if okN c.2.1 = true ∧ 1 < dv c.2.1 ∧ Nat.gcd (dv c.1) (dv c.2.1) = 1 then ((neg, (dv c.1, dv c.2.1)), true) else noQ) else ((neg, (dv c.1, 1)), true)) := if_pos ⟨hok, hn⟩
  rw [natOf_one, Option.bind_some, rr_bad, hbody]
  obtain ⟨a, b, f⟩ := c
  dsimp only at *
  cases f
  · rfl
  · rw [if_neg (by decide), if_pos rfl]
    unfold S.i_readNat
    rw [Option.bind_some]
    dsimp only
    cases hb : okN b
    · have hx : ¬ ((false : Bool) = true ∧ 1 < dv b ∧ Nat.gcd (dv a) (dv b) = 1) := fun q => by cases q.1
      rw [if_neg hx]
      rfl
    · have lb := nd_len200 (B := B32) (by decide) (okN_lt hb)
      have la := nd_len200 (B := B32) (by decide) (okN_lt hok)
      have e1 : S.i_nat_cmp (nd B32 (dv b), (nd B32 1, ())) = some (cmpN (dv b) 1, ()) := by
        unfold S.i_nat_cmp
        dsimp only
        rw [if_pos ⟨canon_nd B32_le _, canon_nd B32_le _, by omega⟩, dval_nd B32_le, dval_nd B32_le]
      have e2 : S.i_nat_gcd (nd B32 (dv a), (nd B32 (dv b), ())) = some (nd B32 (Nat.gcd (dv a) (dv b)), ()) := by
        unfold S.i_nat_gcd
        dsimp only
        rw [if_pos ⟨canon_nd B32_le _, canon_nd B32_le _, by omega, by omega⟩, dval_nd B32_le, dval_nd B32_le]
      show (Option.bind (S.i_natOf ((1 : Int) , ())) (fun (y12 : ((List Int) × Unit)) => (Option.bind (S.i_nat_cmp (nd B32 (dv b) , (y12.1 , ()))) (fun (y13 : (Int × Unit)) => (if ((decide (y13.1 ≤ (0 : Int))) = true) then (some ((rp B32 noQ.1 , noQ.2) , ()))
 else (Option.bind (S.i_nat_gcd (nd B32 (dv a) , (nd B32 (dv b) , ()))) (fun (y14 : ((List Int) × Unit)) => (Option.bind (S.i_natOf ((1 : Int) , ())) (fun (y15 : ((List Int) × Unit)) => (Option.bind (S.i_nat_cmp (y14.1 , (y15.1 , ()))) (fun (y16 : (Int × Unit)) => (if ((y16.1 != (0 : Int)) = true) then (some ((rp B32 noQ.1 , noQ.2) , ()))
 else (some (((neg , (nd B32 (dv a) , nd B32 (dv b))) , true) , ())))))))))))))) = _
      rw [natOf_one, Option.bind_some]
      dsimp only
      rw [e1, Option.bind_some]
      dsimp only
      by_cases h1 : 1 < dv b
      · have hc : ¬ (cmpN (dv b) 1 ≤ 0) := by
          have := (cmpN_gt (a := dv b) (b := 1)).2 h1
          omega
        have lg : (nd B32 (Nat.gcd (dv a) (dv b))).length ≤ 200 := Nat.le_trans (nd_shorter' B32_le (Nat.le_of_dvd (by omega) (Nat.gcd_dvd_right _ _))) lb
        have e3 : S.i_nat_cmp (nd B32 (Nat.gcd (dv a) (dv b)), (nd B32 1, ())) = some (cmpN (Nat.gcd (dv a) (dv b)) 1, ()) := by
          unfold S.i_nat_cmp
          dsimp only
          rw [if_pos ⟨canon_nd B32_le _, canon_nd B32_le _, by omega⟩, dval_nd B32_le, dval_nd B32_le]
        rw [if_neg (by simpa using hc), e2, Option.bind_some, Option.bind_some]
        dsimp only
        rw [e3, Option.bind_some]
        dsimp only
        by_cases hg : Nat.gcd (dv a) (dv b) = 1
        · rw [if_neg (by simpa using cmpN_zero.2 hg), if_pos ⟨rfl, h1, hg⟩]
          rfl
        · rw [if_pos (by simpa using fun q => hg (cmpN_zero.1 q)), if_neg (fun q => hg q.2.2)]
      · have hc : cmpN (dv b) 1 ≤ 0 := by
          have h2 : ¬ (cmpN (dv b) 1 > 0) := fun q => h1 ((cmpN_gt (a := dv b) (b := 1)).1 q)
          omega
        rw [if_pos (decide_eq_true hc), if_neg (fun q => h1 q.2.1)]
theorem S.i_readRat_ok (x : (ByteArray × Unit)) (r : _) (h : S.i_readRat x = some r) : ∃ k, P.i_readRat k x = some r := by
  obtain ⟨s, u⟩ := x
  unfold S.i_readRat at h
  dsimp only at h
  split at h
  case isFalse => cases h
  rename_i hsz
  refine ⟨0, ?_⟩
  rw [← h]
  unfold P.i_readRat
  dsimp only
  have e0 : S.strings_Cut (s, (bs [47], ())) = some ((⟨(cutP 47 s.data.toList).1.toArray⟩, (⟨(cutP 47 s.data.toList).2.1.toArray⟩, (cutP 47 s.data.toList).2.2)), ()) := by
    unfold S.strings_Cut
    dsimp only
    rw [if_pos hsz, show (bs [47]).data.toList = [47] from rfl, cut_cutP]
  have e1 : ∀ l : List UInt8, S.strings_CutPrefix (⟨l.toArray⟩, (bs [45], ())) = some ((⟨(if l.head? = some 45 then l.tail else l).toArray⟩, decide (l.head? = some 45)), ()) := by
    intro l
    unfold S.strings_CutPrefix Go.Lib.trimPrefix Go.Lib.hasPrefix
    dsimp only
    rw [show (bs [45]).data.toList = [45] from rfl]
    cases l with
    | nil => rfl
    | cons b r =>
      by_cases hb : b = 45
      · subst hb
        simp
      · have hb' : ¬ (45 = b) := fun q => hb q.symm
        have hp : ([45].isPrefixOf (b :: r)) = false := by
          show ((45 : UInt8) == b && ([] : List UInt8).isPrefixOf r) = false
          rw [show ((45 : UInt8) == b) = false from beq_eq_false_iff_ne.2 hb', Bool.false_and]
        have hh : ¬ ((b :: r).head? = some 45) := by simpa using hb
        rw [hp, if_neg (by decide), if_neg hh, decide_eq_false hh]
  rw [e0, Option.bind_some]
  dsimp only
  rw [e1, Option.bind_some]
  dsimp only
  generalize s.data.toList = l at *
  -- both ways to take the sign off
  have hcut : ∃ (neg : Bool) (c : List UInt8 × List UInt8 × Bool), decide ((cutP 47 l).1.head? = some 45) = neg ∧ (if (cutP 47 l).1.head? = some 45 then (cutP 47 l).1.tail else (cutP 47 l).1) = c.1 ∧ (cutP 47 l).2.1 = c.2.1 ∧ (cutP 47 l).2.2 = c.2.2 ∧ rdRat l = rdBody neg c := by
    unfold rdRat
    cases l with
    | nil => exact ⟨false, cutP 47 [], rfl, rfl, rfl, rfl, rfl⟩
    | cons b r =>
      by_cases hb : b = 45
      · subst hb
        have hc : cutP 47 (45 :: r) = (45 :: (cutP 47 r).1, (cutP 47 r).2.1, (cutP 47 r).2.2) := by rw [cutP_cons, if_neg (by decide)]
        rw [hc]
        exact ⟨true, cutP 47 r, rfl, rfl, rfl, rfl, rfl⟩
      · have hh : ¬ ((cutP 47 (b :: r)).1.head? = some 45) := by
          rw [cutP_cons]
          split
          · simp
          · simpa using hb
        refine ⟨false, cutP 47 (b :: r), decide_eq_false hh, if_neg hh, rfl, rfl, ?_⟩
        rw [if_neg (by simpa using hb)]
  obtain ⟨neg, c, h1, h2, h3, h4, h5⟩ := hcut
  rw [h1, h2, h3, h4, h5]
  have e2 : S.i_readNat (⟨c.1.toArray⟩, ()) = some (if okN c.1 = true then (nd B32 (dv c.1), true) else ([], false), ()) := rfl
  rw [e2, Option.bind_some]
  cases hok : okN c.1
  · have : rdBody neg c = noQ := by
      unfold rdBody
      rw [if_neg (fun q => by rw [hok] at q; cases q.1)]
    rw [this, ← rr_bad]
    rfl
  · rw [if_pos rfl]
    dsimp only
    rw [if_neg (show ¬ ((!true) = true) by decide)]
    have hz : (((nd B32 (dv c.1)).length : Int) == 0) = decide (dv c.1 = 0) := by
      have := canon_nil B32_le (canon_nd B32_le (dv c.1))
      rw [dval_nd B32_le] at this
      by_cases h0 : dv c.1 = 0
      · rw [this.2 h0, h0]; rfl
      · have hne := fun q => h0 (this.1 q)
        rw [decide_eq_false h0]
        simpa using hne
    cases neg
    · rw [if_neg (by decide)]
      exact rr_rest false c hok (fun q => by cases q.1)
    · rw [if_pos rfl, hz]
      by_cases h0 : dv c.1 = 0
      · have : rdBody true c = noQ := by
          unfold rdBody
          rw [if_neg (fun q => q.2 ⟨rfl, h0⟩)]
        rw [if_pos (decide_eq_true h0), this, ← rr_bad]
      · rw [if_neg (by simpa using h0)]
        exact rr_rest true c hok (fun q => h0 q.2)
def P.i_rat_sign (k : Nat) (x : ((Bool × ((List Int) × (List Int))) × Unit)) : (Option (Int × Unit)) :=
 (if (((((List.length x.1.2.1) : Nat) : Int) == (0 : Int)) = true) then (some ((0 : Int) , ()))
 else (if (x.1.1 = true) then (some ((-1 : Int) , ()))
 else (some ((1 : Int) , ()))))
def S.i_rat_sign (x : ((Bool × ((List Int) × (List Int))) × Unit)) : (Option (Int × Unit)) := if canon B32 x.1.2.1 = true then some (sgnQ x.1.1 (dval B32 x.1.2.1), ()) else none
theorem S.i_rat_sign_ok (x : ((Bool × ((List Int) × (List Int))) × Unit)) (r : _) (h : S.i_rat_sign x = some r) : ∃ k, P.i_rat_sign k x = some r := by
  obtain ⟨⟨n, as, bs⟩, u⟩ := x
  unfold S.i_rat_sign at h
  dsimp only at h
  split at h
  case isFalse => cases h
  rename_i ca
  cases h
  refine ⟨0, ?_⟩
  unfold P.i_rat_sign sgnQ
  dsimp only
  have h := canon_nil B32_le ca
  by_cases h0 : as = []
  · rw [if_pos (h.1 h0), h0, if_pos (by rfl)]
  · rw [if_neg (fun q => h0 (h.2 q)), if_neg (by simpa using h0)]
    cases n <;> rfl
def P.i_positive (k : Nat) (x : (ByteArray × Unit)) : (Option (((Bool × ((List Int) × (List Int))) × Bool) × Unit)) :=
 (Option.bind (S.i_readRat (x.1 , ())) (fun (y0 : (((Bool × ((List Int) × (List Int))) × Bool) × Unit)) => (if (y0.1.2 = true) then (Option.bind (S.i_rat_sign ((y0.1.1.1 , (y0.1.1.2.1 , y0.1.1.2.2)) , ())) (fun (y1 : (Int × Unit)) => (some (((y0.1.1.1 , (y0.1.1.2.1 , y0.1.1.2.2)) , (decide (y1.1 > (0 : Int)))) , ()))))
 else (some (((y0.1.1.1 , (y0.1.1.2.1 , y0.1.1.2.2)) , false) , ())))))
theorem rp_sign (r : Q3) : S.i_rat_sign (rp B32 r, ()) = some (sgnQ r.1 r.2.1, ()) := by
  unfold S.i_rat_sign rp
  dsimp only
  rw [if_pos (canon_nd B32_le _), dval_nd B32_le]
def S.i_positive (x : (ByteArray × Unit)) : (Option (((Bool × ((List Int) × (List Int))) × Bool) × Unit)) := if x.1.size ≤ 1000000 then some ((rp B32 (posR x.1).1, (posR x.1).2), ()) else none
theorem S.i_positive_ok (x : (ByteArray × Unit)) (r : _) (h : S.i_positive x = some r) : ∃ k, P.i_positive k x = some r := by
  obtain ⟨s, u⟩ := x
  unfold S.i_positive at h
  dsimp only at h
  split at h
  case isFalse => cases h
  rename_i hc
  cases h
  refine ⟨0, ?_⟩
  unfold P.i_positive S.i_readRat posR
  dsimp only
  rw [if_pos (by omega), Option.bind_some]
  dsimp only
  cases hf : (rdRat s.data.toList).2
  · rfl
  · rw [if_pos rfl]
    show Option.bind (S.i_rat_sign (rp B32 (rdRat s.data.toList).1, ())) _ = _
    rw [rp_sign, Option.bind_some]
    dsimp only
    rw [sgnQ_pos]
    rfl
def P.i_rat_cmp (k : Nat) (x : ((Bool × ((List Int) × (List Int))) × ((Bool × ((List Int) × (List Int))) × Unit))) : (Option (Int × Unit)) :=
 (Option.bind (S.i_rat_sign ((x.1.1 , (x.1.2.1 , x.1.2.2)) , ())) (fun (y0 : (Int × Unit)) => (Option.bind (S.i_rat_sign ((x.2.1.1 , (x.2.1.2.1 , x.2.1.2.2)) , ())) (fun (y1 : (Int × Unit)) => (if ((y0.1 != y1.1) = true) then (Option.bind (S.i_rat_sign ((x.1.1 , (x.1.2.1 , x.1.2.2)) , ())) (fun (y2 : (Int × Unit)) => (Option.bind (S.i_rat_sign ((x.2.1.1 , (x.2.1.2.1 , x.2.1.2.2)) , ())) (fun (y3 : (Int × Unit)) => (some ((Go.IntKind.wrap Go.IntKind.i64 (y2.1 - y3.1)) , ()))))))
 else (Option.bind (S.i_nat_mul (x.1.2.1 , (x.2.1.2.2 , ()))) (fun (y4 : ((List Int) × Unit)) => (Option.bind (S.i_nat_mul (x.2.1.2.1 , (x.1.2.2 , ()))) (fun (y5 : ((List Int) × Unit)) => (Option.bind (S.i_nat_cmp (y4.1 , (y5.1 , ()))) (fun (y6 : (Int × Unit)) => (if (x.1.1 = true) then (some ((Go.IntKind.wrap Go.IntKind.i64 ((0 : Int) - y6.1)) , ()))
 else (some (y6.1 , ()))))))))))))))
def S.i_rat_cmp (x : ((Bool × ((List Int) × (List Int))) × ((Bool × ((List Int) × (List Int))) × Unit))) : (Option (Int × Unit)) := P.i_rat_cmp 0 x
theorem S.i_rat_cmp_ok (x : ((Bool × ((List Int) × (List Int))) × ((Bool × ((List Int) × (List Int))) × Unit))) (r : _) (h : S.i_rat_cmp x = some r) : ∃ k, P.i_rat_cmp k x = some r := ⟨0, h⟩
theorem ri_cmp {x y : Q3} (hx : low x) (hy : low y) (bx : below 800000 x) (bY : below 800000 y) : S.i_rat_cmp (rp B32 x, (rp B32 y, ())) = some (cmpZ x y, ()) := by
  have sg : ∀ r : Q3, S.i_rat_sign (rp B32 r, ()) = some (sgnQ r.1 r.2.1, ()) := by
    intro r
    unfold S.i_rat_sign rp
    dsimp only
    rw [if_pos (canon_nd B32_le _), dval_nd B32_le]
  have kx := rok_iff.1 (below_rok9 (B := B32) (N := 100000) (by decide) bx (by decide))
  have ky := rok_iff.1 (below_rok9 (B := B32) (N := 100000) (by decide) bY (by decide))
  have mul : ∀ p q : Nat, (nd B32 p).length ≤ 100000 → (nd B32 q).length ≤ 100000 → S.i_nat_mul (nd B32 p, (nd B32 q, ())) = some (nd B32 (p * q), ()) := by
    intro p q hp hq
    unfold S.i_nat_mul
    dsimp only
    rw [if_pos ⟨dig_nd B32_le _, dig_nd B32_le _, by omega, by omega⟩, dval_nd B32_le, dval_nd B32_le]
  have l1 : (nd B32 x.2.1).length ≤ 100000 := kx.2.2.1
  have l2 : (nd B32 x.2.2).length ≤ 100000 := kx.2.2.2
  have l3 : (nd B32 y.2.1).length ≤ 100000 := ky.2.2.1
  have l4 : (nd B32 y.2.2).length ≤ 100000 := ky.2.2.2
  have lm := nd_mul_len B32_le x.2.1 y.2.2
  have hc : S.i_nat_cmp (nd B32 (x.2.1 * y.2.2), (nd B32 (y.2.1 * x.2.2), ())) = some (cmpN (x.2.1 * y.2.2) (y.2.1 * x.2.2), ()) := by
    unfold S.i_nat_cmp
    dsimp only
    rw [if_pos ⟨canon_nd B32_le _, canon_nd B32_le _, by omega⟩, dval_nd B32_le, dval_nd B32_le]
  have hr := cmpN_range (x.2.1 * y.2.2) (y.2.1 * x.2.2)
  have s1 : ∀ r : Q3, -1 ≤ sgnQ r.1 r.2.1 ∧ sgnQ r.1 r.2.1 ≤ 1 := by
    intro r
    unfold sgnQ
    split
    · omega
    · split <;> omega
  have sx := s1 x
  have sy := s1 y
  unfold S.i_rat_cmp P.i_rat_cmp cmpZ
  dsimp only
  show Option.bind (S.i_rat_sign (rp B32 x, ())) (fun y0 => Option.bind (S.i_rat_sign (rp B32 y, ())) (fun y1 => if (y0.1 != y1.1) = true then Option.bind (S.i_rat_sign (rp B32 x, ())) (fun y2 => Option.bind (S.i_rat_sign (rp B32 y, ())) (fun y3 => some (Go.IntKind.wrap Go.IntKind.i64 (y2.1 - y3.1), ()))) else Option.bind (S.i_nat_mul (nd B32 x.2.1, (nd B32 y.2.2, ()))) (fun y4 => Option.bind (S.i_nat_mul (nd B32 y.2.1, (nd B32 x.2.2, ()))) (fun y5 => Option.bind (S.i_nat_cmp (y4.1, (y5.1, ()))) (fun y6 => if x.1 = true then some (Go.IntKind.wrap Go.IntKind.i64 (0 - y6.1), ()) else some (y6.1, ())))))) = _
  rw [sg x, sg y, mul _ _ l1 l4, mul _ _ l3 l2]
  simp only [Option.bind_some]
  rw [hc]
  simp only [Option.bind_some]
  by_cases hs : sgnQ x.1 x.2.1 = sgnQ y.1 y.2.1
  · rw [if_neg (show ¬ ((sgnQ x.1 x.2.1 != sgnQ y.1 y.2.1) = true) by simpa using hs), if_neg (show ¬ (sgnQ x.1 x.2.1 ≠ sgnQ y.1 y.2.1) by simpa using hs)]
    cases hn : x.1
    · rfl
    · simp only [if_true]
      rw [wr (by omega) (by omega), Int.zero_sub]
  · rw [if_pos (show (sgnQ x.1 x.2.1 != sgnQ y.1 y.2.1) = true by simpa using hs), if_pos (show sgnQ x.1 x.2.1 ≠ sgnQ y.1 y.2.1 from hs), wr (by omega) (by omega)]
def P.i_magnitude (k : Nat) (x : (Int × Unit)) : (Option (Int × Unit)) :=
 (if ((decide (x.1 < (0 : Int))) = true) then (some ((Go.IntKind.wrap Go.IntKind.u64 ((0 : Int) - (Go.IntKind.wrap Go.IntKind.u64 x.1))) , ()))
 else (some ((Go.IntKind.wrap Go.IntKind.u64 x.1) , ())))
def S.i_magnitude (x : (Int × Unit)) : (Option (Int × Unit)) := if -9223372036854775808 ≤ x.1 ∧ x.1 ≤ 9223372036854775807 then some (((x.1.natAbs : Nat) : Int), ()) else none
theorem S.i_magnitude_ok (x : (Int × Unit)) (r : _) (h : S.i_magnitude x = some r) : ∃ k, P.i_magnitude k x = some r := by
  obtain ⟨n, u⟩ := x
  unfold S.i_magnitude at h
  dsimp only at h
  split at h
  case isFalse => cases h
  rename_i hc
  cases h
  refine ⟨0, ?_⟩
  unfold P.i_magnitude
  dsimp only
  have hw : ∀ y : Int, Go.IntKind.wrap Go.IntKind.u64 y = y % 18446744073709551616 := fun _ => rfl
  rw [hw, hw]
  by_cases h0 : n < 0
  · rw [if_pos (decide_eq_true h0)]
    congr 2
    omega
  · rw [if_neg (by simpa using h0)]
    congr 2
    omega
def P.i_whole (k : Nat) (x : (Int × Unit)) : (Option ((Bool × ((List Int) × (List Int))) × Unit)) :=
 (Option.bind (S.i_magnitude (x.1 , ())) (fun (y0 : (Int × Unit)) => (Option.bind (S.i_natOf (y0.1 , ())) (fun (y1 : ((List Int) × Unit)) => (Option.bind (S.i_natOf ((1 : Int) , ())) (fun (y2 : ((List Int) × Unit)) => (some (((decide (x.1 < (0 : Int))) , (y1.1 , y2.1)) , ()))))))))
def S.i_whole (x : (Int × Unit)) : (Option ((Bool × ((List Int) × (List Int))) × Unit)) := if -9223372036854775808 ≤ x.1 ∧ x.1 ≤ 9223372036854775807 then some (rp B32 (wholeQ x.1), ()) else none
theorem S.i_whole_ok (x : (Int × Unit)) (r : _) (h : S.i_whole x = some r) : ∃ k, P.i_whole k x = some r := by
  obtain ⟨n, u⟩ := x
  unfold S.i_whole at h
  dsimp only at h
  split at h
  case isFalse => cases h
  rename_i hc
  cases h
  refine ⟨0, ?_⟩
  unfold P.i_whole S.i_magnitude S.i_natOf
  dsimp only
  rw [if_pos hc, Option.bind_some]
  dsimp only
  rw [if_pos ⟨by omega, by omega⟩, Option.bind_some, Int.toNat_natCast, if_pos ⟨by decide, by decide⟩, Option.bind_some]
  rfl
theorem ri_whole {n : Int} (h0 : -1000000000 ≤ n) (h1 : n ≤ 1000000000) : S.i_whole (n, ()) = some (rp B32 (wholeQ n), ()) := by
  unfold S.i_whole
  exact if_pos ⟨by dsimp only; omega, by dsimp only; omega⟩
abbrev P.i_nat_sub_b0  (x1 : (Int × (Int × ((List Int) × (Int × ((List Int) × ((List Int) × Unit))))))) (g2 : (Int × (Int × ((List Int) × (Int × ((List Int) × ((List Int) × Unit)))))) → Option ((List Int) × Unit)) : Option ((List Int) × Unit) :=
 (if ((decide (x1.1 < x1.2.1)) = true) then (if ((decide ((0 : Int) ≤ x1.1)) = true) then (if ((decide (x1.1 < (((List.length x1.2.2.1) : Nat) : Int))) = true) then (if ((decide (x1.1 < (((List.length x1.2.2.2.2.1) : Nat) : Int))) = true) then (if ((decide ((0 : Int) ≤ x1.1)) = true) then (if ((decide (x1.1 < (((List.length x1.2.2.2.2.1) : Nat) : Int))) = true) then (if ((decide ((Go.IntKind.wrap Go.IntKind.i64 ((Go.IntKind.wrap Go.IntKind.i64 ((Go.IntKind.wrap Go.IntKind.i64 (List.getD x1.2.2.1 (Int.toNat x1.1) (0 : Int))) - x1.2.2.2.1)) - (Go.IntKind.wrap Go.IntKind.i64 (List.getD x1.2.2.2.2.1 (Int.toNat x1.1) (0 : Int))))) < (0 : Int))) = true) then (if ((decide ((0 : Int) ≤ x1.1)) = true) then (if ((decide (x1.1 < (((List.length x1.2.2.2.2.2.1) : Nat) : Int))) = true) then (g2 ((Go.IntKind.wrap Go.IntKind.i64 (x1.1 + (1 : Int))) , (x1.2.1 , (x1.2.2.1 , ((1 : Int) , (x1.2.2.2.2.1 , ((List.set x1.2.2.2.2.2.1 ((0 : Nat) + (Int.toNat x1.1)) (Go.IntKind.wrap Go.IntKind.u32 (Go.IntKind.wrap Go.IntKind.i64 ((Go.IntKind.wrap Go.IntKind.i64 ((Go.IntKind.wrap Go.IntKind.i64 (List.getD x1.2.2.1 (Int.toNat x1.1) (0 : Int))) - x1.2.2.2.1)) - (Go.IntKind.wrap Go.IntKind.i64 (List.getD x1.2.2.2.2.1 (Int.toNat x1.1) (0 : Int))))))) , ())))))))
 else none)
 else none)
 else (if ((decide ((0 : Int) ≤ x1.1)) = true) then (if ((decide (x1.1 < (((List.length x1.2.2.2.2.2.1) : Nat) : Int))) = true) then (g2 ((Go.IntKind.wrap Go.IntKind.i64 (x1.1 + (1 : Int))) , (x1.2.1 , (x1.2.2.1 , ((0 : Int) , (x1.2.2.2.2.1 , ((List.set x1.2.2.2.2.2.1 ((0 : Nat) + (Int.toNat x1.1)) (Go.IntKind.wrap Go.IntKind.u32 (Go.IntKind.wrap Go.IntKind.i64 ((Go.IntKind.wrap Go.IntKind.i64 ((Go.IntKind.wrap Go.IntKind.i64 (List.getD x1.2.2.1 (Int.toNat x1.1) (0 : Int))) - x1.2.2.2.1)) - (Go.IntKind.wrap Go.IntKind.i64 (List.getD x1.2.2.2.2.1 (Int.toNat x1.1) (0 : Int))))))) , ())))))))
 else none)
 else none))
 else none)
 else none)
 else (if ((decide ((Go.IntKind.wrap Go.IntKind.i64 ((Go.IntKind.wrap Go.IntKind.i64 (List.getD x1.2.2.1 (Int.toNat x1.1) (0 : Int))) - x1.2.2.2.1)) < (0 : Int))) = true) then (if ((decide ((0 : Int) ≤ x1.1)) = true) then (if ((decide (x1.1 < (((List.length x1.2.2.2.2.2.1) : Nat) : Int))) = true) then (g2 ((Go.IntKind.wrap Go.IntKind.i64 (x1.1 + (1 : Int))) , (x1.2.1 , (x1.2.2.1 , ((1 : Int) , (x1.2.2.2.2.1 , ((List.set x1.2.2.2.2.2.1 ((0 : Nat) + (Int.toNat x1.1)) (Go.IntKind.wrap Go.IntKind.u32 (Go.IntKind.wrap Go.IntKind.i64 ((Go.IntKind.wrap Go.IntKind.i64 (List.getD x1.2.2.1 (Int.toNat x1.1) (0 : Int))) - x1.2.2.2.1)))) , ())))))))
 else none)
 else none)
 else (if ((decide ((0 : Int) ≤ x1.1)) = true) then (if ((decide (x1.1 < (((List.length x1.2.2.2.2.2.1) : Nat) : Int))) = true) then (g2 ((Go.IntKind.wrap Go.IntKind.i64 (x1.1 + (1 : Int))) , (x1.2.1 , (x1.2.2.1 , ((0 : Int) , (x1.2.2.2.2.1 , ((List.set x1.2.2.2.2.2.1 ((0 : Nat) + (Int.toNat x1.1)) (Go.IntKind.wrap Go.IntKind.u32 (Go.IntKind.wrap Go.IntKind.i64 ((Go.IntKind.wrap Go.IntKind.i64 (List.getD x1.2.2.1 (Int.toNat x1.1) (0 : Int))) - x1.2.2.2.1)))) , ())))))))
 else none)
 else none)))
 else none)
 else none)
 else (Option.bind (S.i_nat_trim (x1.2.2.2.2.2.1 , ())) (fun (y3 : ((List Int) × Unit)) => (some (y3.1 , ())))))
def P.i_nat_sub (k : Nat) (x : ((List Int) × ((List Int) × Unit))) : (Option ((List Int) × Unit)) :=
 (if ((decide ((0 : Int) ≤ (((List.length x.1) : Nat) : Int))) = true) then (if ((decide ((((List.length x.1) : Nat) : Int) ≤ (((List.length x.1) : Nat) : Int))) = true) then (if ((decide (((((List.length x.1) : Nat) : Int) * (4 : Int)) ≤ (281474976710656 : Int))) = true) then (loopP (X := (Int × (Int × ((List Int) × (Int × ((List Int) × ((List Int) × Unit))))))) (R := ((List Int) × Unit)) (P.i_nat_sub_b0 ) k ((0 : Int) , ((((List.length x.1) : Nat) : Int) , (x.1 , ((0 : Int) , (x.2.1 , ((List.replicate (Int.toNat (((List.length x.1) : Nat) : Int)) (0 : Int)) , ())))))))
 else none)
 else none)
 else none)
def S.i_nat_sub (x : ((List Int) × ((List Int) × Unit))) : (Option ((List Int) × Unit)) := if dig B32 x.1 = true ∧ dig B32 x.2.1 = true ∧ x.2.1.length ≤ x.1.length ∧ dval B32 x.2.1 ≤ dval B32 x.1 ∧ x.1.length ≤ 10000000000 then some (nd B32 (dval B32 x.1 - dval B32 x.2.1), ()) else none
theorem S.i_nat_sub_ok (x : ((List Int) × ((List Int) × Unit))) (r : _) (h : S.i_nat_sub x = some r) : ∃ k, P.i_nat_sub k x = some r := by
  obtain ⟨xs, ys, u⟩ := x
  unfold S.i_nat_sub at h
  dsimp only at h
  split at h
  case isFalse => cases h
  rename_i hc
  obtain ⟨dx, dy, hl, hv, lx⟩ := hc
  cases h
  refine ⟨xs.length + 1, ?_⟩
  unfold P.i_nat_sub
  dsimp only
  have a1 : (0 : Int) ≤ (xs.length : Int) := by omega
  have a2 : (xs.length : Int) * 4 ≤ 281474976710656 := by omega
  simp only [a1, a2, decide_true, if_true, Int.le_refl, Int.toNat_natCast]
  have key := loop_up0 (k := xs.length + 1) (b := P.i_nat_sub_b0) (n := xs.length) (st := fun i => ((i : Int), (xs.length : Int), xs, ((takeUp B32 1 xs ys i).2.2 : Int), ys, (takeUp B32 1 xs ys i).1 ++ List.replicate (xs.length - i) 0, ())) (F := fun i => some (nd B32 (dval B32 xs - dval B32 ys), ())) (fun i g hi hg => by
    unfold P.i_nat_sub_b0
    dsimp only at hg ⊢
    refine Eq.trans ?_ hg
    clear hg
    obtain ⟨q1, q2, q3, q4, q5⟩ := takeUp_ok (t := 1) B32_le dx dy i
    have gx := dig_getD (B := B32) (by decide) dx i
    have gy := dig_getD (B := B32) (by decide) dy i
    have gx1 : xs.getD i 0 < 4294967296 := gx.2
    have gy1 : ys.getD i 0 < 4294967296 := gy.2
    have gx0 := gx.1
    have gy0 := gy.1
    have hlen : ((takeUp B32 1 xs ys i).1 ++ List.replicate (xs.length - i) (0 : Int)).length = xs.length := by rw [List.length_append, q2, List.length_replicate]; omega
    have e1 : (i : Int) < (xs.length : Int) := by omega
    have e2 : (0 : Int) ≤ (i : Int) := by omega
    rw [hlen]
    simp only [e1, e2, decide_true, if_true, Nat.zero_add, Int.toNat_natCast]
    have hrep : List.replicate (xs.length - i) (0 : Int) = 0 :: List.replicate (xs.length - (i + 1)) 0 := by
      rw [show xs.length - i = (xs.length - (i + 1)) + 1 by omega, List.replicate_succ]
    rw [hrep]
    simp only [mid_set q2]
    rw [(takeUp_one B32_le (xs := xs) dy i).2]
    dsimp only
    have y0 : ¬ ((i : Int) < (ys.length : Int)) → ys.getD i 0 = 0 := by
      intro hj
      rw [List.getD_eq_getElem?_getD, List.getElem?_eq_none (by omega)]
      rfl
    generalize (takeUp B32 1 xs ys i).1 = pl at *
    generalize (takeUp B32 1 xs ys i).2.2 = l0 at *
    obtain ⟨x, hx⟩ : ∃ x, xs.getD i 0 = x := ⟨_, rfl⟩
    obtain ⟨y, hy⟩ : ∃ y, ys.getD i 0 = y := ⟨_, rfl⟩
    simp only [hx, hy] at gx1 gx0 gy1 gy0 y0 ⊢
    have hB : ((B32 : Nat) : Int) = 4294967296 := rfl
    rw [wr (x := (i : Int) + 1) (by omega) (by omega), wr (x := x) (by omega) (by omega), wr (x := x - (l0 : Int)) (by omega) (by omega), hB]
    by_cases hj : (i : Int) < (ys.length : Int)
    · rw [if_pos (decide_eq_true hj), if_pos (decide_eq_true hj), wr (x := y) (by omega) (by omega), wr (x := x - (l0 : Int) - y) (by omega) (by omega), u32_emod, show x - (l0 : Int) - y = x - y - (l0 : Int) by omega]
      by_cases hn : x - y - (l0 : Int) < 0
      · rw [if_pos (decide_eq_true hn), if_pos hn]
        rfl
      · rw [if_neg (by simpa using hn), if_neg hn]
        rfl
    · have hy0 := y0 hj
      subst hy0
      rw [if_neg (by simpa using hj), u32_emod, show x - 0 - (l0 : Int) = x - (l0 : Int) by omega]
      by_cases hn : x - (l0 : Int) < 0
      · rw [if_pos (decide_eq_true hn), if_pos hn]
        rfl
      · rw [if_neg (by simpa using hn), if_neg hn]
        rfl) (fun g => by
    unfold P.i_nat_sub_b0
    dsimp only
    rw [if_neg (by simp), Nat.sub_self, show List.replicate 0 (0 : Int) = [] from rfl, List.append_nil, takeUp_fd B32_le dx dy hl hv]
    unfold S.i_nat_trim
    dsimp only
    have hb := dval_lt dx
    rw [if_pos ⟨dig_fd (by decide) _ _, by rw [fd_len]; omega⟩, Option.bind_some, nd_fd B32_le (by omega)]) (by omega)
  exact key
def P.i_lowest (k : Nat) (x : (Bool × ((List Int) × ((List Int) × Unit)))) : (Option ((Bool × ((List Int) × (List Int))) × Unit)) :=
 (if (((((List.length x.2.1) : Nat) : Int) == (0 : Int)) = true) then (Option.bind (S.i_natOf ((1 : Int) , ())) (fun (y0 : ((List Int) × Unit)) => (some ((false , (([] : List Int) , y0.1)) , ()))))
 else (Option.bind (S.i_nat_gcd (x.2.1 , (x.2.2.1 , ()))) (fun (y1 : ((List Int) × Unit)) => (if (((((List.length y1.1) : Nat) : Int) == (1 : Int)) = true) then (if ((decide ((0 : Int) < (((List.length y1.1) : Nat) : Int))) = true) then (if (((List.getD y1.1 (0 : Nat) (0 : Int)) == (1 : Int)) = true) then (some ((x.1 , (x.2.1 , x.2.2.1)) , ()))
 else (Option.bind (S.i_nat_div (x.2.1 , (y1.1 , ()))) (fun (y2 : (((List Int) × (List Int)) × Unit)) => (Option.bind (S.i_nat_div (x.2.2.1 , (y1.1 , ()))) (fun (y3 : (((List Int) × (List Int)) × Unit)) => (some ((x.1 , (y2.1.1 , y3.1.1)) , ())))))))
 else none)
 else (Option.bind (S.i_nat_div (x.2.1 , (y1.1 , ()))) (fun (y4 : (((List Int) × (List Int)) × Unit)) => (Option.bind (S.i_nat_div (x.2.2.1 , (y1.1 , ()))) (fun (y5 : (((List Int) × (List Int)) × Unit)) => (some ((x.1 , (y4.1.1 , y5.1.1)) , ()))))))))))
def S.i_lowest (x : (Bool × ((List Int) × ((List Int) × Unit)))) : (Option ((Bool × ((List Int) × (List Int))) × Unit)) := if canon B32 x.2.1 = true ∧ canon B32 x.2.2.1 = true ∧ x.2.2.1 ≠ [] ∧ x.2.1.length ≤ 100000000 ∧ x.2.2.1.length ≤ 100000000 then some (rp B32 (lowN x.1 (dval B32 x.2.1) (dval B32 x.2.2.1)), ()) else none
theorem S.i_lowest_ok (x : (Bool × ((List Int) × ((List Int) × Unit)))) (r : _) (h : S.i_lowest x = some r) : ∃ k, P.i_lowest k x = some r := by
  obtain ⟨neg, as, bs', u⟩ := x
  unfold S.i_lowest at h
  dsimp only at h
  split at h
  case isFalse => cases h
  rename_i hc
  obtain ⟨ca, cb, hne, la, lb⟩ := hc
  cases h
  refine ⟨0, ?_⟩
  unfold P.i_lowest
  dsimp only
  have hb0 : dval B32 bs' ≠ 0 := fun e => hne ((canon_nil B32_le cb).2 e)
  by_cases ha : as = []
  · subst ha
    rw [if_pos (by rfl)]
    unfold S.i_natOf lowN rp
    dsimp only
    rw [if_pos ⟨by decide, by decide⟩, Option.bind_some, show dval B32 [] = 0 from rfl, Nat.gcd_zero_left, Nat.zero_div, Nat.div_self (by omega), nd_zero B32_le]
    simp
  · have ha0 : dval B32 as ≠ 0 := fun e => ha ((canon_nil B32_le ca).2 e)
    rw [if_neg (by simpa using ha)]
    have hg := gcd_len B32_le ca cb hb0
    have hgp : 0 < Nat.gcd (dval B32 as) (dval B32 bs') := Nat.gcd_pos_of_pos_right _ (by omega)
    have e1 : S.i_nat_gcd (as, (bs', ())) = some (nd B32 (Nat.gcd (dval B32 as) (dval B32 bs')), ()) := by
      unfold S.i_nat_gcd
      exact if_pos ⟨ca, cb, la, lb⟩
    rw [e1, Option.bind_some]
    dsimp only
    unfold lowN rp
    dsimp only
    rw [decide_eq_true ha0, Bool.and_true]
    have hgne : nd B32 (Nat.gcd (dval B32 as) (dval B32 bs')) ≠ [] := by
      rw [nd_pos B32_le (by omega)]
      simp
    have hgd : dval B32 (nd B32 (Nat.gcd (dval B32 as) (dval B32 bs'))) = Nat.gcd (dval B32 as) (dval B32 bs') := dval_nd B32_le _
    have hgc : canon B32 (nd B32 (Nat.gcd (dval B32 as) (dval B32 bs'))) = true := canon_nd B32_le _
    have e2 : ∀ xs, canon B32 xs = true → xs.length ≤ 100000000 → S.i_nat_div (xs, (nd B32 (Nat.gcd (dval B32 as) (dval B32 bs')), ())) = some ((nd B32 (dval B32 xs / Nat.gcd (dval B32 as) (dval B32 bs')), nd B32 (dval B32 xs % Nat.gcd (dval B32 as) (dval B32 bs'))), ()) := by
      intro xs cx lx
      unfold S.i_nat_div
      dsimp only
      rw [if_pos ⟨cx, hgc, hgne, lx, by omega⟩, hgd]
    rw [e2 as ca la, Option.bind_some, e2 bs' cb lb, Option.bind_some]
    dsimp only
    have hone : nd B32 (Nat.gcd (dval B32 as) (dval B32 bs')) = [1] → as = nd B32 (dval B32 as / Nat.gcd (dval B32 as) (dval B32 bs')) ∧ bs' = nd B32 (dval B32 bs' / Nat.gcd (dval B32 as) (dval B32 bs')) := by
      intro e
      rw [e, dval_one] at hgd
      rw [← hgd, Nat.div_one, Nat.div_one, canon_eq ca, canon_eq cb]
      exact ⟨rfl, rfl⟩
    generalize hgl : nd B32 (Nat.gcd (dval B32 as) (dval B32 bs')) = gl at *
    by_cases h1 : gl.length = 1
    · have d1 : (((gl.length : Nat) : Int) == (1 : Int)) = true := by simp [h1]
      have d2 : (0 : Int) < (gl.length : Int) := by omega
      rw [if_pos d1, if_pos (decide_eq_true d2)]
      obtain ⟨g0, rfl⟩ : ∃ g0, gl = [g0] := by
        match gl, h1 with
        | [g0], _ => exact ⟨g0, rfl⟩
      by_cases h2 : g0 = 1
      · subst h2
        rw [if_pos (by rfl), ← (hone rfl).1, ← (hone rfl).2]
      · rw [if_neg (by simpa using h2)]
    · have d1 : ¬ (((gl.length : Nat) : Int) == (1 : Int)) = true := by simp; omega
      rw [if_neg d1]
def P.i_rat_add (k : Nat) (x : ((Bool × ((List Int) × (List Int))) × ((Bool × ((List Int) × (List Int))) × Unit))) : (Option ((Bool × ((List Int) × (List Int))) × Unit)) :=
 (Option.bind (S.i_rat_sign ((x.1.1 , (x.1.2.1 , x.1.2.2)) , ())) (fun (y0 : (Int × Unit)) => (if ((y0.1 == (0 : Int)) = true) then (some ((x.2.1.1 , (x.2.1.2.1 , x.2.1.2.2)) , ()))
 else (Option.bind (S.i_rat_sign ((x.2.1.1 , (x.2.1.2.1 , x.2.1.2.2)) , ())) (fun (y1 : (Int × Unit)) => (if ((y1.1 == (0 : Int)) = true) then (some ((x.1.1 , (x.1.2.1 , x.1.2.2)) , ()))
 else (Option.bind (S.i_nat_cmp (x.1.2.2 , (x.2.1.2.2 , ()))) (fun (y2 : (Int × Unit)) => (if ((y2.1 != (0 : Int)) = true) then (Option.bind (S.i_nat_mul (x.1.2.1 , (x.2.1.2.2 , ()))) (fun (y3 : ((List Int) × Unit)) => (Option.bind (S.i_nat_mul (x.2.1.2.1 , (x.1.2.2 , ()))) (fun (y4 : ((List Int) × Unit)) => (Option.bind (S.i_nat_mul (x.1.2.2 , (x.2.1.2.2 , ()))) (fun (y5 : ((List Int) × Unit)) => (if ((x.1.1 == x.2.1.1) = true) then (Option.bind (S.i_nat_add (y3.1 , (y4.1 , ()))) (fun (y6 : ((List Int) × Unit)) => (Option.bind (S.i_lowest (x.1.1 , (y6.1 , (y5.1 , ())))) (fun (y7 : ((Bool × ((List Int) × (List Int))) × Unit)) => (some ((y7.1.1 , (y7.1.2.1 , y7.1.2.2)) , ()))))))
 else (Option.bind (S.i_nat_cmp (y3.1 , (y4.1 , ()))) (fun (y8 : (Int × Unit)) => (if ((decide (y8.1 ≥ (0 : Int))) = true) then (Option.bind (S.i_nat_sub (y3.1 , (y4.1 , ()))) (fun (y9 : ((List Int) × Unit)) => (Option.bind (S.i_lowest (x.1.1 , (y9.1 , (y5.1 , ())))) (fun (y10 : ((Bool × ((List Int) × (List Int))) × Unit)) => (some ((y10.1.1 , (y10.1.2.1 , y10.1.2.2)) , ()))))))
 else (Option.bind (S.i_nat_sub (y4.1 , (y3.1 , ()))) (fun (y11 : ((List Int) × Unit)) => (Option.bind (S.i_lowest (x.2.1.1 , (y11.1 , (y5.1 , ())))) (fun (y12 : ((Bool × ((List Int) × (List Int))) × Unit)) => (some ((y12.1.1 , (y12.1.2.1 , y12.1.2.2)) , ()))))))))))))))))
 else (if ((x.1.1 == x.2.1.1) = true) then (Option.bind (S.i_nat_add (x.1.2.1 , (x.2.1.2.1 , ()))) (fun (y13 : ((List Int) × Unit)) => (Option.bind (S.i_lowest (x.1.1 , (y13.1 , (x.1.2.2 , ())))) (fun (y14 : ((Bool × ((List Int) × (List Int))) × Unit)) => (some ((y14.1.1 , (y14.1.2.1 , y14.1.2.2)) , ()))))))
 else (Option.bind (S.i_nat_cmp (x.1.2.1 , (x.2.1.2.1 , ()))) (fun (y15 : (Int × Unit)) => (if ((decide (y15.1 ≥ (0 : Int))) = true) then (Option.bind (S.i_nat_sub (x.1.2.1 , (x.2.1.2.1 , ()))) (fun (y16 : ((List Int) × Unit)) => (Option.bind (S.i_lowest (x.1.1 , (y16.1 , (x.1.2.2 , ())))) (fun (y17 : ((Bool × ((List Int) × (List Int))) × Unit)) => (some ((y17.1.1 , (y17.1.2.1 , y17.1.2.2)) , ()))))))
 else (Option.bind (S.i_nat_sub (x.2.1.2.1 , (x.1.2.1 , ()))) (fun (y18 : ((List Int) × Unit)) => (Option.bind (S.i_lowest (x.2.1.1 , (y18.1 , (x.1.2.2 , ())))) (fun (y19 : ((Bool × ((List Int) × (List Int))) × Unit)) => (some ((y19.1.1 , (y19.1.2.1 , y19.1.2.2)) , ())))))))))))))))))))
theorem ra_mul (p q : Nat) (hp : (nd B32 p).length ≤ 1000000) (hq : (nd B32 q).length ≤ 1000000) : S.i_nat_mul (nd B32 p, (nd B32 q, ())) = some (nd B32 (p * q), ()) := by
  unfold S.i_nat_mul
  dsimp only
  rw [if_pos ⟨dig_nd B32_le _, dig_nd B32_le _, by omega, by omega⟩, dval_nd B32_le, dval_nd B32_le]
theorem ra_add (p q : Nat) (hp : (nd B32 p).length ≤ 1000000) (hq : (nd B32 q).length ≤ 1000000) : S.i_nat_add (nd B32 p, (nd B32 q, ())) = some (nd B32 (p + q), ()) := by
  unfold S.i_nat_add
  dsimp only
  rw [if_pos ⟨dig_nd B32_le _, dig_nd B32_le _, by omega, by omega⟩, dval_nd B32_le, dval_nd B32_le]
theorem ra_sub (p q : Nat) (hp : (nd B32 p).length ≤ 1000000) (h : q ≤ p) : S.i_nat_sub (nd B32 p, (nd B32 q, ())) = some (nd B32 (p - q), ()) := by
  unfold S.i_nat_sub
  dsimp only
  rw [dval_nd B32_le, dval_nd B32_le, if_pos ⟨dig_nd B32_le _, dig_nd B32_le _, nd_shorter' B32_le h, h, by omega⟩]
theorem ra_cmp (p q : Nat) (hp : (nd B32 p).length ≤ 1000000) : S.i_nat_cmp (nd B32 p, (nd B32 q, ())) = some (cmpN p q, ()) := by
  unfold S.i_nat_cmp
  dsimp only
  rw [if_pos ⟨canon_nd B32_le _, canon_nd B32_le _, by omega⟩, dval_nd B32_le, dval_nd B32_le]
theorem ra_low (n : Bool) (p q : Nat) (hp : (nd B32 p).length ≤ 1000000) (hq : (nd B32 q).length ≤ 1000000) (h0 : q ≠ 0) : S.i_lowest (n, (nd B32 p, (nd B32 q, ()))) = some (rp B32 (lowN n p q), ()) := by
  unfold S.i_lowest
  dsimp only
  rw [if_pos ⟨canon_nd B32_le _, canon_nd B32_le _, nd_ne B32_le h0, by omega, by omega⟩, dval_nd B32_le, dval_nd B32_le]
theorem ra_sign (n : Bool) (p : Nat) (bs : List Int) : S.i_rat_sign ((n, (nd B32 p, bs)), ()) = some (sgnQ n p, ()) := by
  unfold S.i_rat_sign
  dsimp only
  rw [if_pos (canon_nd B32_le _), dval_nd B32_le]
def S.i_rat_add (x : ((Bool × ((List Int) × (List Int))) × ((Bool × ((List Int) × (List Int))) × Unit))) : (Option ((Bool × ((List Int) × (List Int))) × Unit)) := if lowb B32 100000 x.1 = true ∧ lowb B32 100000 x.2.1 = true then some (rp B32 (addQ (rv B32 x.1) (rv B32 x.2.1)), ()) else none
theorem S.i_rat_add_ok (x : ((Bool × ((List Int) × (List Int))) × ((Bool × ((List Int) × (List Int))) × Unit))) (r : _) (h : S.i_rat_add x = some r) : ∃ k, P.i_rat_add k x = some r := by
  obtain ⟨x, y, u⟩ := x
  unfold S.i_rat_add at h
  dsimp only at h
  split at h
  case isFalse => cases h
  rename_i hc
  obtain ⟨hx, hy⟩ := hc
  cases h
  rw [lowb_iff] at hx hy
  obtain ⟨hx, lx⟩ := hx
  obtain ⟨hy, ly⟩ := hy
  obtain ⟨n1, p1, q1, rfl, x1, x2⟩ := rok_nd hx
  obtain ⟨n2, p2, q2, rfl, y1, y2⟩ := rok_nd hy
  rw [rv_nd B32_le] at lx ly ⊢
  rw [rv_nd B32_le]
  have hq1 : q1 ≠ 0 := by have : 0 < q1 := lx.1; omega
  have hq2 : q2 ≠ 0 := by have : 0 < q2 := ly.1; omega
  refine ⟨0, ?_⟩
  unfold P.i_rat_add
  dsimp only
  rw [ra_sign, Option.bind_some]
  dsimp only
  by_cases h1 : p1 = 0
  · rw [if_pos (by simpa using sgnQ_zero.2 h1), addQ_zero_left _ _ lx ly h1]
    rfl
  · rw [if_neg (by simpa using fun q => h1 (sgnQ_zero.1 q)), ra_sign, Option.bind_some]
    dsimp only
    by_cases h2 : p2 = 0
    · rw [if_pos (by simpa using sgnQ_zero.2 h2), addQ_zero_right _ _ lx ly h2]
      rfl
    · rw [if_neg (by simpa using fun q => h2 (sgnQ_zero.1 q)), ra_cmp q1 q2 (by omega), Option.bind_some]
      dsimp only
      have m1 := nd_mul_len B32_le p1 q2
      have m2 := nd_mul_len B32_le p2 q1
      have m3 := nd_mul_len B32_le q1 q2
      by_cases hq : q1 = q2
      · rw [if_neg (by simpa using cmpN_zero.2 hq), addQ_same _ _ lx hq]
        dsimp only
        have a1 := nd_add_len B32_le p1 p2
        have a2 := nd_sub_len B32_le p1 p2
        have a3 := nd_sub_len B32_le p2 p1
        by_cases hn : n1 = n2
        · rw [if_pos (by simpa using hn), if_pos hn, ra_add p1 p2 (by omega) (by omega), Option.bind_some, ra_low n1 _ q1 (by omega) (by omega) hq1, Option.bind_some]
        · rw [if_neg (by simpa using hn), if_neg hn, ra_cmp p1 p2 (by omega), Option.bind_some]
          dsimp only
          have hlt := cmpN_lt (a := p1) (b := p2)
          by_cases hle : p2 ≤ p1
          · have hge : cmpN p1 p2 ≥ 0 := by omega
            rw [if_pos (decide_eq_true hge), if_pos hle, ra_sub p1 p2 (by omega) hle, Option.bind_some, ra_low n1 _ q1 (by omega) (by omega) hq1, Option.bind_some]
          · have hge : ¬ cmpN p1 p2 ≥ 0 := by omega
            rw [if_neg (by simpa using hge), if_neg hle, ra_sub p2 p1 (by omega) (by omega), Option.bind_some, ra_low n2 _ q1 (by omega) (by omega) hq1, Option.bind_some]
      · have hq0 : q1 * q2 ≠ 0 := Nat.mul_ne_zero hq1 hq2
        rw [if_pos (by simpa using fun q => hq (cmpN_zero.1 q)), ra_mul p1 q2 (by omega) (by omega), Option.bind_some, ra_mul p2 q1 (by omega) (by omega), Option.bind_some, ra_mul q1 q2 (by omega) (by omega), Option.bind_some]
        dsimp only
        unfold addQ
        dsimp only
        have a1 := nd_add_len B32_le (p1 * q2) (p2 * q1)
        have a2 := nd_sub_len B32_le (p1 * q2) (p2 * q1)
        have a3 := nd_sub_len B32_le (p2 * q1) (p1 * q2)
        by_cases hn : n1 = n2
        · rw [if_pos (by simpa using hn), if_pos hn, ra_add _ _ (by omega) (by omega), Option.bind_some, ra_low n1 _ _ (by omega) (by omega) hq0, Option.bind_some]
        · rw [if_neg (by simpa using hn), if_neg hn, ra_cmp _ _ (by omega), Option.bind_some]
          dsimp only
          have hlt := cmpN_lt (a := p1 * q2) (b := p2 * q1)
          by_cases hle : p2 * q1 ≤ p1 * q2
          · have hge : cmpN (p1 * q2) (p2 * q1) ≥ 0 := by
              rcases Int.lt_or_le (cmpN (p1 * q2) (p2 * q1)) 0 with g | g
              · have := hlt.1 g
                omega
              · exact g
            rw [if_pos (decide_eq_true hge), if_pos hle, ra_sub _ _ (by omega) hle, Option.bind_some, ra_low n1 _ _ (by omega) (by omega) hq0, Option.bind_some]
          · have hge : ¬ cmpN (p1 * q2) (p2 * q1) ≥ 0 := by
              have := hlt.2 (Nat.lt_of_not_le hle)
              omega
            rw [if_neg (by simpa using hge), if_neg hle, ra_sub _ _ (by omega) (Nat.le_of_lt (Nat.lt_of_not_le hle)), Option.bind_some, ra_low n2 _ _ (by omega) (by omega) hq0, Option.bind_some]
theorem ri_add {x y : Q3} {m n : Nat} (hx : low x) (bx : below m x) (hy : low y) (bY : below n y) (hm : m ≤ 800000) (hn : n ≤ 800000) : S.i_rat_add (rp B32 x, (rp B32 y, ())) = some (rp B32 (addQ x y), ()) := by
  unfold S.i_rat_add
  dsimp only
  rw [if_pos ⟨lowb_rp9 (by decide) hx bx (by omega), lowb_rp9 (by decide) hy bY (by omega)⟩, rv_rp B32_le, rv_rp B32_le]
def P.i_rat_mul (k : Nat) (x : ((Bool × ((List Int) × (List Int))) × ((Bool × ((List Int) × (List Int))) × Unit))) : (Option ((Bool × ((List Int) × (List Int))) × Unit)) :=
 (Option.bind (S.i_rat_sign ((x.1.1 , (x.1.2.1 , x.1.2.2)) , ())) (fun (y0 : (Int × Unit)) => (if ((y0.1 == (0 : Int)) = true) then (Option.bind (S.i_whole ((0 : Int) , ())) (fun (y1 : ((Bool × ((List Int) × (List Int))) × Unit)) => (some ((y1.1.1 , (y1.1.2.1 , y1.1.2.2)) , ()))))
 else (Option.bind (S.i_rat_sign ((x.2.1.1 , (x.2.1.2.1 , x.2.1.2.2)) , ())) (fun (y2 : (Int × Unit)) => (if ((y2.1 == (0 : Int)) = true) then (Option.bind (S.i_whole ((0 : Int) , ())) (fun (y3 : ((Bool × ((List Int) × (List Int))) × Unit)) => (some ((y3.1.1 , (y3.1.2.1 , y3.1.2.2)) , ()))))
 else (Option.bind (S.i_lowest (false , (x.1.2.1 , (x.2.1.2.2 , ())))) (fun (y4 : ((Bool × ((List Int) × (List Int))) × Unit)) => (Option.bind (S.i_lowest (false , (x.2.1.2.1 , (x.1.2.2 , ())))) (fun (y5 : ((Bool × ((List Int) × (List Int))) × Unit)) => (Option.bind (S.i_nat_mul (y4.1.2.1 , (y5.1.2.1 , ()))) (fun (y6 : ((List Int) × Unit)) => (Option.bind (S.i_nat_mul (y4.1.2.2 , (y5.1.2.2 , ()))) (fun (y7 : ((List Int) × Unit)) => (some (((!(x.1.1 == x.2.1.1)) , (y6.1 , y7.1)) , ()))))))))))))))))
theorem rm_mul (p q : Nat) (hp : (nd B32 p).length ≤ 1000000) (hq : (nd B32 q).length ≤ 1000000) : S.i_nat_mul (nd B32 p, (nd B32 q, ())) = some (nd B32 (p * q), ()) := by
  unfold S.i_nat_mul
  dsimp only
  rw [if_pos ⟨dig_nd B32_le _, dig_nd B32_le _, by omega, by omega⟩, dval_nd B32_le, dval_nd B32_le]
theorem rm_low (n : Bool) (p q : Nat) (hp : (nd B32 p).length ≤ 1000000) (hq : (nd B32 q).length ≤ 1000000) (h0 : q ≠ 0) : S.i_lowest (n, (nd B32 p, (nd B32 q, ()))) = some (rp B32 (lowN n p q), ()) := by
  unfold S.i_lowest
  dsimp only
  rw [if_pos ⟨canon_nd B32_le _, canon_nd B32_le _, nd_ne B32_le h0, by omega, by omega⟩, dval_nd B32_le, dval_nd B32_le]
theorem rm_sign (n : Bool) (p : Nat) (bs : List Int) : S.i_rat_sign ((n, (nd B32 p, bs)), ()) = some (sgnQ n p, ()) := by
  unfold S.i_rat_sign
  dsimp only
  rw [if_pos (canon_nd B32_le _), dval_nd B32_le]
theorem rm_zero : S.i_whole (0, ()) = some (rp B32 (false, (0, 1)), ()) := by
  unfold S.i_whole
  rfl
def S.i_rat_mul (x : ((Bool × ((List Int) × (List Int))) × ((Bool × ((List Int) × (List Int))) × Unit))) : (Option ((Bool × ((List Int) × (List Int))) × Unit)) := if lowb B32 100000 x.1 = true ∧ lowb B32 100000 x.2.1 = true then some (rp B32 (mulQ (rv B32 x.1) (rv B32 x.2.1)), ()) else none
theorem S.i_rat_mul_ok (x : ((Bool × ((List Int) × (List Int))) × ((Bool × ((List Int) × (List Int))) × Unit))) (r : _) (h : S.i_rat_mul x = some r) : ∃ k, P.i_rat_mul k x = some r := by
  obtain ⟨x, y, u⟩ := x
  unfold S.i_rat_mul at h
  dsimp only at h
  split at h
  case isFalse => cases h
  rename_i hc
  obtain ⟨hx, hy⟩ := hc
  cases h
  rw [lowb_iff] at hx hy
  obtain ⟨hx, lx⟩ := hx
  obtain ⟨hy, ly⟩ := hy
  obtain ⟨n1, p1, q1, rfl, x1, x2⟩ := rok_nd hx
  obtain ⟨n2, p2, q2, rfl, y1, y2⟩ := rok_nd hy
  rw [rv_nd B32_le] at lx ly ⊢
  rw [rv_nd B32_le]
  have hq1 : 0 < q1 := lx.1
  have hq2 : 0 < q2 := ly.1
  refine ⟨0, ?_⟩
  unfold P.i_rat_mul mulQ
  dsimp only
  rw [rm_sign, Option.bind_some, rm_zero, Option.bind_some]
  dsimp only
  by_cases h1 : p1 = 0
  · rw [if_pos (by simpa using sgnQ_zero.2 h1), h1, Nat.zero_mul, lowN_zero _ (Nat.mul_pos hq1 hq2)]
  · rw [if_neg (by simpa using fun q => h1 (sgnQ_zero.1 q)), rm_sign, Option.bind_some]
    dsimp only
    by_cases h2 : p2 = 0
    · rw [if_pos (by simpa using sgnQ_zero.2 h2), h2, Nat.mul_zero, lowN_zero _ (Nat.mul_pos hq1 hq2)]
    · have d1 := nd_div_len B32_le p1 (Nat.gcd p1 q2)
      have d2 := nd_div_len B32_le p2 (Nat.gcd p2 q1)
      have d3 := nd_div_len B32_le q2 (Nat.gcd p1 q2)
      have d4 := nd_div_len B32_le q1 (Nat.gcd p2 q1)
      rw [if_neg (by simpa using fun q => h2 (sgnQ_zero.1 q)), rm_low false p1 q2 (by omega) (by omega) (by omega), Option.bind_some, rm_low false p2 q1 (by omega) (by omega) (by omega), Option.bind_some, cross_mul _ (fun _ => ⟨h1, h2⟩) hq1 hq2 lx.2.2 ly.2.2]
      unfold rp lowN
      dsimp only
      rw [rm_mul _ _ (by omega) (by omega), Option.bind_some, rm_mul _ _ (by omega) (by omega), Option.bind_some]
      rfl
theorem ri_mul {x y : Q3} {m n : Nat} (hx : low x) (bx : below m x) (hy : low y) (bY : below n y) (hm : m ≤ 800000) (hn : n ≤ 800000) : S.i_rat_mul (rp B32 x, (rp B32 y, ())) = some (rp B32 (mulQ x y), ()) := by
  unfold S.i_rat_mul
  dsimp only
  rw [if_pos ⟨lowb_rp9 (by decide) hx bx (by omega), lowb_rp9 (by decide) hy bY (by omega)⟩, rv_rp B32_le, rv_rp B32_le]
def P.i_rat_over (k : Nat) (x : ((Bool × ((List Int) × (List Int))) × ((Bool × ((List Int) × (List Int))) × Unit))) : (Option ((Bool × ((List Int) × (List Int))) × Unit)) :=
 (Option.bind (S.i_rat_mul ((x.1.1 , (x.1.2.1 , x.1.2.2)) , ((x.2.1.1 , (x.2.1.2.2 , x.2.1.2.1)) , ()))) (fun (y0 : ((Bool × ((List Int) × (List Int))) × Unit)) => (some ((y0.1.1 , (y0.1.2.1 , y0.1.2.2)) , ()))))
def S.i_rat_over (x : ((Bool × ((List Int) × (List Int))) × ((Bool × ((List Int) × (List Int))) × Unit))) : (Option ((Bool × ((List Int) × (List Int))) × Unit)) := if lowb B32 100000 x.1 = true ∧ lowb B32 100000 x.2.1 = true ∧ (rv B32 x.2.1).2.1 ≠ 0 then some (rp B32 (overQ (rv B32 x.1) (rv B32 x.2.1)), ()) else none
theorem S.i_rat_over_ok (x : ((Bool × ((List Int) × (List Int))) × ((Bool × ((List Int) × (List Int))) × Unit))) (r : _) (h : S.i_rat_over x = some r) : ∃ k, P.i_rat_over k x = some r := by
  obtain ⟨x, y, u⟩ := x
  unfold S.i_rat_over at h
  dsimp only at h
  split at h
  case isFalse => cases h
  rename_i hc
  obtain ⟨hx, hy, h0⟩ := hc
  cases h
  have hy' := lowb_iff.1 hy
  refine ⟨0, ?_⟩
  have e2 : S.i_rat_mul (x, ((y.1, (y.2.2, y.2.1)), ())) = some (rp B32 (overQ (rv B32 x) (rv B32 y)), ()) := by
    unfold S.i_rat_mul
    dsimp only
    have hz : lowb B32 100000 (y.1, (y.2.2, y.2.1)) = true := by
      rw [lowb_iff]
      obtain ⟨r1, l1⟩ := hy'
      have r2 := rok_iff.1 r1
      refine ⟨rok_iff.2 ⟨r2.2.1, r2.1, r2.2.2.2, r2.2.2.1⟩, ?_⟩
      obtain ⟨l1, l2, l3⟩ := l1
      refine ⟨Nat.pos_of_ne_zero h0, fun _ => Nat.ne_of_gt l1, ?_⟩
      rw [Nat.gcd_comm]
      exact l3
    rw [if_pos ⟨hx, hz⟩]
    rfl
  show Option.bind (S.i_rat_mul (x, ((y.1, (y.2.2, y.2.1)), ()))) (fun y0 => some (y0.1, ())) = _
  rw [e2, Option.bind_some]
theorem ri_over {x y : Q3} {m n : Nat} (hx : low x) (bx : below m x) (hy : low y) (bY : below n y) (h0 : y.2.1 ≠ 0) (hm : m ≤ 800000) (hn : n ≤ 800000) : S.i_rat_over (rp B32 x, (rp B32 y, ())) = some (rp B32 (overQ x y), ()) := by
  unfold S.i_rat_over
  dsimp only
  rw [if_pos ⟨lowb_rp9 (by decide) hx bx (by omega), lowb_rp9 (by decide) hy bY (by omega), by rw [rv_rp B32_le]; exact h0⟩, rv_rp B32_le, rv_rp B32_le]
abbrev P.i_losses_b1  (x2 : (Int × (Int × ((Bool × ((List Int) × (List Int))) × ((List (Bool × ((List Int) × (List Int)))) × Unit))))) (g3 : (Int × (Int × ((Bool × ((List Int) × (List Int))) × ((List (Bool × ((List Int) × (List Int)))) × Unit)))) → Option ((List (Bool × ((List Int) × (List Int)))) × Unit)) : Option ((List (Bool × ((List Int) × (List Int)))) × Unit) :=
 (if ((decide (x2.1 ≤ x2.2.1)) = true) then (if ((decide ((0 : Int) ≤ (Go.IntKind.wrap Go.IntKind.i64 (x2.1 - (1 : Int))))) = true) then (if ((decide ((Go.IntKind.wrap Go.IntKind.i64 (x2.1 - (1 : Int))) < (((List.length x2.2.2.2.1) : Nat) : Int))) = true) then (Option.bind (S.i_rat_mul ((x2.2.2.1.1 , (x2.2.2.1.2.1 , x2.2.2.1.2.2)) , (((List.getD x2.2.2.2.1 ((0 : Nat) + (Int.toNat (Go.IntKind.wrap Go.IntKind.i64 (x2.1 - (1 : Int))))) (false , (([] : List Int) , ([] : List Int)))).1 , ((List.getD x2.2.2.2.1 ((0 : Nat) + (Int.toNat (Go.IntKind.wrap Go.IntKind.i64 (x2.1 - (1 : Int))))) (false , (([] : List Int) , ([] : List Int)))).2.1 , (List.getD x2.2.2.2.1 ((0 : Nat) + (Int.toNat (Go.IntKind.wrap Go.IntKind.i64 (x2.1 - (1 : Int))))) (false , (([] : List Int) , ([] : List Int)))).2.2)) , ()))) (fun (y4 : ((Bool × ((List Int) × (List Int))) × Unit)) => (Option.bind (S.i_whole (x2.1 , ())) (fun (y5 : ((Bool × ((List Int) × (List Int))) × Unit)) => (Option.bind (S.i_rat_add ((y4.1.1 , (y4.1.2.1 , y4.1.2.2)) , ((y5.1.1 , (y5.1.2.1 , y5.1.2.2)) , ()))) (fun (y6 : ((Bool × ((List Int) × (List Int))) × Unit)) => (Option.bind (S.i_rat_over ((y4.1.1 , (y4.1.2.1 , y4.1.2.2)) , ((y6.1.1 , (y6.1.2.1 , y6.1.2.2)) , ()))) (fun (y7 : ((Bool × ((List Int) × (List Int))) × Unit)) => (if ((decide ((((List.length x2.2.2.2.1) + (List.length ((y7.1.1 , (y7.1.2.1 , y7.1.2.2)) :: ([] : List (Bool × ((List Int) × (List Int))))))) * (56 : Nat)) ≤ (140737488355328 : Nat))) = true) then (g3 ((Go.IntKind.wrap Go.IntKind.i64 (x2.1 + (1 : Int))) , (x2.2.1 , ((x2.2.2.1.1 , (x2.2.2.1.2.1 , x2.2.2.1.2.2)) , ((x2.2.2.2.1 ++ ((y7.1.1 , (y7.1.2.1 , y7.1.2.2)) :: ([] : List (Bool × ((List Int) × (List Int)))))) , ())))))
 else none)))))))))
 else none)
 else none)
 else (some (x2.2.2.2.1 , ())))
def P.i_losses (k : Nat) (x : ((Bool × ((List Int) × (List Int))) × (Int × Unit))) : (Option ((List (Bool × ((List Int) × (List Int)))) × Unit)) :=
 (Option.bind (S.i_whole ((1 : Int) , ())) (fun (y0 : ((Bool × ((List Int) × (List Int))) × Unit)) => (loopP (X := (Int × (Int × ((Bool × ((List Int) × (List Int))) × ((List (Bool × ((List Int) × (List Int)))) × Unit))))) (R := ((List (Bool × ((List Int) × (List Int)))) × Unit)) (P.i_losses_b1 ) k ((1 : Int) , (x.2.1 , ((x.1.1 , (x.1.2.1 , x.1.2.2)) , (((y0.1.1 , (y0.1.2.1 , y0.1.2.2)) :: ([] : List (Bool × ((List Int) × (List Int))))) , ())))))))
open Classical in
def S.i_losses (x : ((Bool × ((List Int) × (List Int))) × (Int × Unit))) : (Option ((List (Bool × ((List Int) × (List Int)))) × Unit)) := if isRate B32 x.1 ∧ 0 ≤ x.2.1 ∧ x.2.1 ≤ 20 then some ((List.range (x.2.1.toNat + 1)).map (fun i => rp B32 (lossQ (rv B32 x.1) i)), ()) else none
theorem S.i_losses_ok (x : ((Bool × ((List Int) × (List Int))) × (Int × Unit))) (r : _) (h : S.i_losses x = some r) : ∃ k, P.i_losses k x = some r := by
  obtain ⟨y, most, u⟩ := x
  unfold S.i_losses at h
  dsimp only at h
  split at h
  case isFalse => cases h
  rename_i hc
  cases h
  obtain ⟨⟨r, rfl, hl, hb, hp⟩, h1, h2⟩ := hc
  obtain ⟨M, rfl⟩ : ∃ M : Nat, most = (M : Int) := ⟨most.toNat, by omega⟩
  refine ⟨M + 1, ?_⟩
  unfold P.i_losses
  have hz : S.i_whole (1, ()) = some (rp B32 oneQ, ()) := by rfl
  dsimp only
  rw [rv_rp B32_le, Int.toNat_natCast, hz, Option.bind_some]
  have key := loop_up0 (k := M + 1) (b := P.i_losses_b1) (n := M) (st := fun i => ((i : Int) + 1, (M : Int), rp B32 r, (List.range (i + 1)).map (fun j => rp B32 (lossQ r j)), ())) (F := fun i => some ((List.range (M + 1)).map (fun j => rp B32 (lossQ r j)), ())) (fun i g hi hg' => by
    unfold P.i_losses_b1
    dsimp only at hg' ⊢
    have e1 : (i : Int) + 1 ≤ (M : Int) := by omega
    have e2 : (0 : Int) ≤ (i : Int) := by omega
    have e3 : (i : Int) < (((List.range (i + 1)).map (fun j => rp B32 (lossQ r j))).length : Int) := by rw [List.length_map, List.length_range]; omega
    have hL := lossQ_low hl hp i
    have hB := lossQ_below hl hp hb i (by omega)
    have hL1 := mulQ_low _ _ hl hL.1
    have hB1 := mulQ_below hb hB
    have hW : below 2 (wholeQ ((i + 1 : Nat) : Int)) := whole20_below (by omega) (by omega)
    have hL2 := addQ_low _ _ hL1 (wholeQ_low ((i + 1 : Nat) : Int))
    have hB2 := addQ_below hB1 hW
    have h0 : (addQ (mulQ r (lossQ r i)) (wholeQ ((i + 1 : Nat) : Int))).2.1 ≠ 0 := fun e => by
      have e0 := (qv_zero_iff hL2).2 e
      rw [qv_add hL1 (wholeQ_low _), qv_whole, qv_mul hl hL.1] at e0
      have p1 := Rat.mul_pos ((posQ_iff hl).1 hp) hL.2
      have p2 : (0 : Rat) < (((i + 1 : Nat) : Int) : Rat) := Rat.intCast_pos.2 (by omega)
      grind
    rw [wr (x := (i : Int) + 1 - 1) (by omega) (by omega), show (i : Int) + 1 - 1 = (i : Int) by omega, if_pos (decide_eq_true e1), if_pos (decide_eq_true e2), if_pos (decide_eq_true e3), Nat.zero_add, getD_cast ((List.range (i + 1)).map (fun j => rp B32 (lossQ r j))) i _ (by rw [List.length_map, List.length_range]; omega), List.getElem_map, List.getElem_range]
    show Option.bind (S.i_rat_mul (rp B32 r, (rp B32 (lossQ r i), ()))) _ = _
    rw [ri_mul hl hb hL.1 hB (by decide) (by omega), Option.bind_some, show (i : Int) + 1 = ((i + 1 : Nat) : Int) by omega, ri_whole (by omega) (by omega), Option.bind_some]
    show Option.bind (S.i_rat_add (rp B32 (mulQ r (lossQ r i)), (rp B32 (wholeQ ((i + 1 : Nat) : Int)), ()))) _ = _
    rw [ri_add hL1 hB1 (wholeQ_low _) hW (by omega) (by decide), Option.bind_some]
    show Option.bind (S.i_rat_over (rp B32 (mulQ r (lossQ r i)), (rp B32 (addQ (mulQ r (lossQ r i)) (wholeQ ((i + 1 : Nat) : Int))), ()))) _ = _
    rw [ri_over hL1 hB1 hL2 hB2 h0 (by omega) (by omega), Option.bind_some]
    dsimp only
    have e4 : (((List.range (i + 1)).map (fun j => rp B32 (lossQ r j))).length + 1) * 56 ≤ 140737488355328 := by
      rw [List.length_map, List.length_range]
      omega
    simp only [List.length_cons, List.length_nil, Nat.zero_add]
    rw [if_pos (decide_eq_true e4), wr (x := ((i + 1 : Nat) : Int) + 1) (by omega) (by omega), ← hg', range_snoc _ (i + 1)]
    rfl) (fun g => by
    unfold P.i_losses_b1
    dsimp only
    rw [if_neg (by simpa using (show ¬ (M : Int) + 1 ≤ (M : Int) by omega))]) (by omega)
  exact key
abbrev P.i_leastServers_b1  (x2 : (Int × (Int × ((List (Bool × ((List Int) × (List Int)))) × ((Bool × ((List Int) × (List Int))) × Unit))))) (g3 : (Int × (Int × ((List (Bool × ((List Int) × (List Int)))) × ((Bool × ((List Int) × (List Int))) × Unit)))) → Option ((Int × Bool) × Unit)) : Option ((Int × Bool) × Unit) :=
 (if ((decide (x2.1 < x2.2.1)) = true) then (if ((decide ((0 : Int) ≤ x2.1)) = true) then (if ((decide (x2.1 < (((List.length x2.2.2.1) : Nat) : Int))) = true) then (Option.bind (S.i_rat_cmp (((List.getD x2.2.2.1 (Int.toNat x2.1) (false , (([] : List Int) , ([] : List Int)))).1 , ((List.getD x2.2.2.1 (Int.toNat x2.1) (false , (([] : List Int) , ([] : List Int)))).2.1 , (List.getD x2.2.2.1 (Int.toNat x2.1) (false , (([] : List Int) , ([] : List Int)))).2.2)) , ((x2.2.2.2.1.1 , (x2.2.2.2.1.2.1 , x2.2.2.2.1.2.2)) , ()))) (fun (y4 : (Int × Unit)) => (if ((decide (y4.1 ≤ (0 : Int))) = true) then (some ((x2.1 , true) , ()))
 else (g3 ((Go.IntKind.wrap Go.IntKind.i64 (x2.1 + (1 : Int))) , (x2.2.1 , (x2.2.2.1 , ((x2.2.2.2.1.1 , (x2.2.2.2.1.2.1 , x2.2.2.2.1.2.2)) , ()))))))))
 else none)
 else none)
 else (some (((0 : Int) , false) , ())))
def P.i_leastServers (k : Nat) (x : ((Bool × ((List Int) × (List Int))) × ((Bool × ((List Int) × (List Int))) × Unit))) : (Option ((Int × Bool) × Unit)) :=
 (Option.bind (S.i_losses ((x.1.1 , (x.1.2.1 , x.1.2.2)) , ((20 : Int) , ()))) (fun (y0 : ((List (Bool × ((List Int) × (List Int)))) × Unit)) => (loopP (X := (Int × (Int × ((List (Bool × ((List Int) × (List Int)))) × ((Bool × ((List Int) × (List Int))) × Unit))))) (R := ((Int × Bool) × Unit)) (P.i_leastServers_b1 ) k ((0 : Int) , ((((List.length y0.1) : Nat) : Int) , (y0.1 , ((x.2.1.1 , (x.2.1.2.1 , x.2.1.2.2)) , ())))))))
open Classical in
def S.i_leastServers (x : ((Bool × ((List Int) × (List Int))) × ((Bool × ((List Int) × (List Int))) × Unit))) : (Option ((Int × Bool) × Unit)) := if isRate B32 x.1 ∧ (∃ q : Q3, x.2.1 = rp B32 q ∧ low q ∧ below 200 q) then some (lsT (rv B32 x.1) (rv B32 x.2.1) 0, ()) else none
theorem S.i_leastServers_ok (x : ((Bool × ((List Int) × (List Int))) × ((Bool × ((List Int) × (List Int))) × Unit))) (r : _) (h : S.i_leastServers x = some r) : ∃ k, P.i_leastServers k x = some r := by
  obtain ⟨y, z, u⟩ := x
  unfold S.i_leastServers at h
  dsimp only at h
  split at h
  case isFalse => cases h
  rename_i hc
  cases h
  obtain ⟨⟨r, rfl, hl, hb, hp⟩, m, rfl, ml, mb⟩ := hc
  refine ⟨22, ?_⟩
  unfold P.i_leastServers
  dsimp only
  rw [rv_rp B32_le, rv_rp B32_le]
  have e : S.i_losses (rp B32 r, (20, ())) = some ((List.range 21).map (fun i => rp B32 (lossQ r i)), ()) := by
    unfold S.i_losses
    dsimp only
    rw [if_pos ⟨⟨r, rfl, hl, hb, hp⟩, by decide, by decide⟩, rv_rp B32_le]
    rfl
  show Option.bind (S.i_losses (rp B32 r, (20, ()))) _ = _
  rw [e, Option.bind_some]
  have key := loop_up0 (k := 22) (b := P.i_leastServers_b1) (n := 21) (st := fun i => ((i : Int), (21 : Int), (List.range 21).map (fun j => rp B32 (lossQ r j)), rp B32 m, ())) (F := fun i => some (lsT r m i, ())) (fun i g hi hg' => by
    have e1 : (i : Int) < 21 := by omega
    have e2 : (0 : Int) ≤ (i : Int) := by omega
    have e3 : (i : Int) < (((List.range 21).map (fun j => rp B32 (lossQ r j))).length : Int) := by rw [List.length_map, List.length_range]; omega
    have hL := lossQ_low hl hp i
    have hB := lossQ_below hl hp hb i (by omega)
    unfold P.i_leastServers_b1
    dsimp only at hg' ⊢
    rw [if_pos (decide_eq_true e1), if_pos (decide_eq_true e2), if_pos (decide_eq_true e3), getD_cast _ i _ (by rw [List.length_map, List.length_range]; omega), List.getElem_map, List.getElem_range]
    show Option.bind (S.i_rat_cmp (rp B32 (lossQ r i), (rp B32 m, ()))) _ = _
    rw [ri_cmp hL.1 ml (below_mono (by omega) hB) (below_mono (by decide) mb), Option.bind_some, lsT_step r m hi]
    dsimp only
    have hf : leastF r m i = decide (cmpZ (lossQ r i) m ≤ 0) := rfl
    rw [hf]
    by_cases hc : cmpZ (lossQ r i) m ≤ 0
    · rw [if_pos (decide_eq_true hc), if_pos (decide_eq_true hc)]
    · rw [if_neg (by simpa using hc), if_neg (by simpa using hc), wr (by omega) (by omega)]
      exact hg') (fun g => by
    unfold P.i_leastServers_b1
    dsimp only
    rw [if_neg (by simp)]
    rfl) (by decide)
  exact key
def P.i_LeastServers (k : Nat) (x : (ByteArray × (ByteArray × Unit))) : (Option ((Int × Bool) × Unit)) :=
 (Option.bind (S.i_positive (x.1 , ())) (fun (y0 : (((Bool × ((List Int) × (List Int))) × Bool) × Unit)) => (Option.bind (S.i_readRat (x.2.1 , ())) (fun (y1 : (((Bool × ((List Int) × (List Int))) × Bool) × Unit)) => (if ((!y0.1.2) = true) then (some (((0 : Int) , false) , ()))
 else (if ((!y1.1.2) = true) then (some (((0 : Int) , false) , ()))
 else (Option.bind (S.i_leastServers ((y0.1.1.1 , (y0.1.1.2.1 , y0.1.1.2.2)) , ((y1.1.1.1 , (y1.1.1.2.1 , y1.1.1.2.2)) , ()))) (fun (y2 : ((Int × Bool) × Unit)) => (some ((y2.1.1 , y2.1.2) , ()))))))))))
def S.i_LeastServers (x : (ByteArray × (ByteArray × Unit))) : (Option ((Int × Bool) × Unit)) := P.i_LeastServers 0 x
theorem S.i_LeastServers_ok (x : (ByteArray × (ByteArray × Unit))) (r : _) (h : S.i_LeastServers x = some r) : ∃ k, P.i_LeastServers k x = some r := ⟨0, h⟩
def P.l_FnExactLeastServers (k : Nat) (x : (ByteArray × (ByteArray × Unit))) : (Option (Bool × Unit)) :=
 (if ((decide ((Go.IntKind.wrap Go.IntKind.i64 ((((ByteArray.size x.1) : Nat) : Int) + (((ByteArray.size x.2.1) : Nat) : Int))) > (1000000 : Int))) = true) then (some (true , ()))
 else (Option.bind (S.s_LeastServers (x.1 , (x.2.1 , ()))) (fun (y0 : ((Int × Bool) × Unit)) => (Option.bind (S.i_LeastServers (x.1 , (x.2.1 , ()))) (fun (y1 : ((Int × Bool) × Unit)) => (if ((y1.1.1 != y0.1.1) = true) then (some (false , ()))
 else (if ((!(y1.1.2 == y0.1.2)) = true) then (some (false , ()))
 else (some (true , ())))))))))
def S.l_FnExactLeastServers (x : (ByteArray × (ByteArray × Unit))) : (Option (Bool × Unit)) := P.l_FnExactLeastServers 0 x
theorem S.l_FnExactLeastServers_ok (x : (ByteArray × (ByteArray × Unit))) (r : _) (h : S.l_FnExactLeastServers x = some r) : ∃ k, P.l_FnExactLeastServers k x = some r := ⟨0, h⟩
end Go.Cm
end
