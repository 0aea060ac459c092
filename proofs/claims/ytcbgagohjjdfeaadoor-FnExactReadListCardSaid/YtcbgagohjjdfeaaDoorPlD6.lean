import Derived.Test.YtcbgagohjjdfeaaDoorCmZI
import Derived.Lib.ParseIntB
import Derived.Lib.Split
import Derived.Lib.SplitLaws
set_option linter.unusedVariables false
set_option maxRecDepth 100000
noncomputable section
namespace Go.Cm
abbrev P.l_eqInt64S_b0  (x1 : (Int × ((List Int) × ((List Int) × Unit)))) (g2 : (Int × ((List Int) × ((List Int) × Unit))) → Option (Bool × Unit)) : Option (Bool × Unit) :=
 (if ((decide (x1.1 < (((List.length x1.2.1) : Nat) : Int))) = true) then (if ((decide ((0 : Int) ≤ x1.1)) = true) then (if ((decide (x1.1 < (((List.length x1.2.1) : Nat) : Int))) = true) then (if ((decide ((0 : Int) ≤ x1.1)) = true) then (if ((decide (x1.1 < (((List.length x1.2.2.1) : Nat) : Int))) = true) then (if (((List.getD x1.2.1 (Int.toNat x1.1) (0 : Int)) != (List.getD x1.2.2.1 (Int.toNat x1.1) (0 : Int))) = true) then (some (false , ()))
 else (g2 ((Go.IntKind.wrap Go.IntKind.i64 (x1.1 + (1 : Int))) , (x1.2.1 , (x1.2.2.1 , ())))))
 else none)
 else none)
 else none)
 else none)
 else (some (true , ())))
def P.l_eqInt64S (k : Nat) (x : ((List Int) × ((List Int) × Unit))) : (Option (Bool × Unit)) :=
 (if (((((List.length x.1) : Nat) : Int) != (((List.length x.2.1) : Nat) : Int)) = true) then (some (false , ()))
 else (loopP (X := (Int × ((List Int) × ((List Int) × Unit)))) (R := (Bool × Unit)) (P.l_eqInt64S_b0 ) k ((0 : Int) , (x.1 , (x.2.1 , ())))))
theorem eqI_len {xs ys : List Int} (h : xs.length ≠ ys.length) : (xs == ys) = false := by
  rw [beq_eq_false_iff_ne]
  intro e
  exact h (congrArg List.length e)
theorem eqI_drop {xs ys : List Int} {i : Nat} (hx : i < xs.length) (hy : i < ys.length) : (xs.drop i == ys.drop i) = ((xs[i] == ys[i]) && (xs.drop (i + 1) == ys.drop (i + 1))) := by
  rw [List.drop_eq_getElem_cons hx, List.drop_eq_getElem_cons hy]
  rfl
def S.l_eqInt64S (x : ((List Int) × ((List Int) × Unit))) : (Option (Bool × Unit)) := if x.1.length ≤ 9223372036854775807 then some ((x.1 == x.2.1), ()) else none
theorem S.l_eqInt64S_ok (x : ((List Int) × ((List Int) × Unit))) (r : _) (h : S.l_eqInt64S x = some r) : ∃ k, P.l_eqInt64S k x = some r := by
  obtain ⟨xs, ys, u⟩ := x
  unfold S.l_eqInt64S at h
  dsimp only at h
  split at h
  case isFalse => cases h
  rename_i hc
  cases h
  refine ⟨xs.length + 1, ?_⟩
  unfold P.l_eqInt64S
  dsimp only
  by_cases hl : xs.length = ys.length
  · have e0 : ((xs.length : Int) != (ys.length : Int)) = false := by simp [hl]
    rw [if_neg (by rw [e0]; simp)]
    have := loop_up0 (b := P.l_eqInt64S_b0) (n := xs.length) (st := fun i => ((i : Int), xs, ys, ())) (F := fun i => some (((xs.drop i) == (ys.drop i)), ())) (fun i g hi hg => by
      have hy : i < ys.length := by omega
      unfold P.l_eqInt64S_b0
      dsimp only at hg ⊢
      have e1 : (i : Int) < (xs.length : Int) := by omega
      have e1' : (i : Int) < (ys.length : Int) := by omega
      have e2 : (0 : Int) ≤ (i : Int) := by omega
      simp only [e1, e1', e2, decide_true, if_true]
      rw [getD_cast xs i _ hi, getD_cast ys i _ hy, wr (x := (i : Int) + 1) (by omega) (by omega), eqI_drop hi hy]
      by_cases hq : (xs[i] == ys[i]) = true
      · simp only [bne, hq, Bool.not_true, Bool.false_eq_true, if_false, Bool.true_and]
        exact hg
      · have hq' : (xs[i] == ys[i]) = false := by simpa using hq
        simp only [bne, hq', Bool.not_false, if_true, Bool.false_and]) (fun g => by
      unfold P.l_eqInt64S_b0
      have e1 : ¬ ((xs.length : Int) < (xs.length : Int)) := by omega
      simp only [e1, decide_false, Bool.false_eq_true, if_false]
      rw [List.drop_length, hl, List.drop_length]
      rfl) (Nat.lt_succ_self _)
    simpa using this
  · rw [if_pos (by simp; omega), eqI_len hl]
abbrev P.l_markInt64S_b0  (x1 : (Int × ((List Int) × (Int × Unit)))) (g2 : (Int × ((List Int) × (Int × Unit))) → Option (Int × ((List Int) × Unit))) : Option (Int × ((List Int) × Unit)) :=
 (if ((decide (x1.1 < (((List.length x1.2.1) : Nat) : Int))) = true) then (if ((decide ((0 : Int) ≤ x1.1)) = true) then (if ((decide (x1.1 < (((List.length x1.2.1) : Nat) : Int))) = true) then (g2 ((Go.IntKind.wrap Go.IntKind.i64 (x1.1 + (1 : Int))) , ((List.set x1.2.1 ((0 : Nat) + (Int.toNat x1.1)) x1.2.2.1) , ((Go.IntKind.wrap Go.IntKind.i64 (x1.2.2.1 + (1 : Int))) , ()))))
 else none)
 else none)
 else (some (x1.2.2.1 , (x1.2.1 , ()))))
def P.l_markInt64S (k : Nat) (x : ((List Int) × (Int × Unit))) : (Option (Int × ((List Int) × Unit))) :=
 (loopP (X := (Int × ((List Int) × (Int × Unit)))) (R := (Int × ((List Int) × Unit))) (P.l_markInt64S_b0 ) k ((0 : Int) , (x.1 , (x.2.1 , ()))))
/-- What marks are left: the numbers from 101 on. -/
def ramp (n : Nat) : List Int := (List.range n).map fun i : Nat => 101 + (i : Int)
theorem ramp_len (n : Nat) : (ramp n).length = n := by simp [ramp]
theorem ramp_succ (n : Nat) : ramp (n + 1) = ramp n ++ [101 + (n : Int)] := by simp [ramp, List.range_succ]
theorem ramp_get (n i : Nat) (h : i < n) : (ramp n)[i]'(by rw [ramp_len]; exact h) = 101 + (i : Int) := by simp [ramp]
def S.l_markInt64S (x : ((List Int) × (Int × Unit))) : (Option (Int × ((List Int) × Unit))) := if x.2.1 = 101 ∧ x.1.length ≤ 10000000 then some (101 + (x.1.length : Int), (ramp x.1.length, ())) else none
theorem S.l_markInt64S_ok (x : ((List Int) × (Int × Unit))) (r : _) (h : S.l_markInt64S x = some r) : ∃ k, P.l_markInt64S k x = some r := by
  obtain ⟨xs, c, u⟩ := x
  unfold S.l_markInt64S at h
  dsimp only at h
  split at h
  case isFalse => cases h
  rename_i hs
  obtain ⟨rfl, hl⟩ := hs
  cases h
  refine ⟨xs.length + 1, ?_⟩
  unfold P.l_markInt64S
  dsimp only
  have key := loop_up0 (k := xs.length + 1) (b := P.l_markInt64S_b0) (n := xs.length) (st := fun i => ((i : Int), ramp i ++ xs.drop i, 101 + (i : Int), ())) (F := fun i => some (101 + (xs.length : Int), (ramp xs.length, ()))) (fun i g hi hg => by
    unfold P.l_markInt64S_b0
    dsimp only at hg ⊢
    have hlen : (ramp i ++ xs.drop i).length = xs.length := by rw [List.length_append, ramp_len, List.length_drop]; omega
    rw [hlen]
    have e1 : (i : Int) < (xs.length : Int) := by omega
    have e2 : (0 : Int) ≤ (i : Int) := by omega
    simp only [e1, e2, decide_true, if_true]
    rw [wr (by omega) (by omega), wr (by omega) (by omega), ← hg]
    have e3 : (ramp i ++ xs.drop i).set (0 + (i : Int).toNat) (101 + (i : Int)) = ramp (i + 1) ++ xs.drop (i + 1) := by
      rw [List.drop_eq_getElem_cons hi, ramp_succ]
      have : 0 + (i : Int).toNat = (ramp i).length := by rw [ramp_len]; omega
      rw [this, List.set_append_right _ _ (Nat.le_refl _), Nat.sub_self, List.append_assoc]
      rfl
    rw [e3]
    congr 1
    all_goals (simp only [Prod.mk.injEq]; exact ⟨by omega, trivial, by omega, trivial⟩)) (fun g => by
    unfold P.l_markInt64S_b0
    dsimp only
    have hlen : (ramp xs.length ++ xs.drop xs.length).length = xs.length := by rw [List.length_append, ramp_len, List.length_drop]; omega
    rw [hlen, if_neg (by simp)]
    simp) (by omega)
  simpa [ramp] using key
abbrev P.l_heldInt64S_b0  (x1 : (Int × ((List Int) × (Int × Unit)))) (g2 : (Int × ((List Int) × (Int × Unit))) → Option (Int × Unit)) : Option (Int × Unit) :=
 (if ((decide (x1.1 < (((List.length x1.2.1) : Nat) : Int))) = true) then (if ((decide ((0 : Int) ≤ x1.1)) = true) then (if ((decide (x1.1 < (((List.length x1.2.1) : Nat) : Int))) = true) then (if (((List.getD x1.2.1 (Int.toNat x1.1) (0 : Int)) != x1.2.2.1) = true) then (some ((-1 : Int) , ()))
 else (g2 ((Go.IntKind.wrap Go.IntKind.i64 (x1.1 + (1 : Int))) , (x1.2.1 , ((Go.IntKind.wrap Go.IntKind.i64 (x1.2.2.1 + (1 : Int))) , ())))))
 else none)
 else none)
 else (some (x1.2.2.1 , ())))
def P.l_heldInt64S (k : Nat) (x : ((List Int) × (Int × Unit))) : (Option (Int × Unit)) :=
 (loopP (X := (Int × ((List Int) × (Int × Unit)))) (R := (Int × Unit)) (P.l_heldInt64S_b0 ) k ((0 : Int) , (x.1 , (x.2.1 , ()))))
def S.l_heldInt64S (x : ((List Int) × (Int × Unit))) : (Option (Int × Unit)) := if x.2.1 = 101 ∧ x.1.length ≤ 10000000 ∧ x.1 = ramp x.1.length then some (101 + (x.1.length : Int), ()) else none
theorem S.l_heldInt64S_ok (x : ((List Int) × (Int × Unit))) (r : _) (h : S.l_heldInt64S x = some r) : ∃ k, P.l_heldInt64S k x = some r := by
  obtain ⟨xs, c, u⟩ := x
  unfold S.l_heldInt64S at h
  dsimp only at h
  split at h
  case isFalse => cases h
  rename_i hs
  obtain ⟨rfl, hl, hx⟩ := hs
  cases h
  refine ⟨xs.length + 1, ?_⟩
  unfold P.l_heldInt64S
  dsimp only
  have key := loop_up0 (k := xs.length + 1) (b := P.l_heldInt64S_b0) (n := xs.length) (st := fun i => ((i : Int), xs, 101 + (i : Int), ())) (F := fun i => some (101 + (xs.length : Int), ())) (fun i g hi hg => by
    unfold P.l_heldInt64S_b0
    dsimp only at hg ⊢
    have e1 : (i : Int) < (xs.length : Int) := by omega
    have e2 : (0 : Int) ≤ (i : Int) := by omega
    simp only [e1, e2, decide_true, if_true]
    have e3 : xs[i] = 101 + (i : Int) := by
      have := ramp_get xs.length i hi
      rw [← this]
      congr 1
    rw [getD_cast xs i _ hi, e3, if_neg (by simp), wr (by omega) (by omega), wr (by omega) (by omega), ← hg]
    congr 1
    all_goals (simp only [Prod.mk.injEq]; exact ⟨by omega, trivial, by omega, trivial⟩)) (fun g => by
    unfold P.l_heldInt64S_b0
    dsimp only
    rw [if_neg (by simp)]) (by omega)
  simpa using key
def P.s_l00In (k : Nat) (x : (Int × (Int × (Int × Unit)))) : (Option (Bool × Unit)) :=
 (if ((decide (x.1 ≥ x.2.1)) = true) then (some ((decide (x.1 ≤ x.2.2.1)) , ()))
 else (some (false , ())))
def S.s_l00In (x : (Int × (Int × (Int × Unit)))) : (Option (Bool × Unit)) := P.s_l00In 0 x
theorem S.s_l00In_ok (x : (Int × (Int × (Int × Unit)))) (r : _) (h : S.s_l00In x = some r) : ∃ k, P.s_l00In k x = some r := ⟨0, h⟩
/-- A number that is not too great. -/
def inB (n : Int) : Bool := decide (-1000000000 ≤ n ∧ n ≤ 1000000000)
theorem inB_iff (n : Int) : inB n = true ↔ -1000000000 ≤ n ∧ n ≤ 1000000000 := by simp [inB]
theorem in_s (n : Int) : S.s_l00In (n, -1000000000, 1000000000, ()) = some (inB n, ()) := by
  unfold S.s_l00In P.s_l00In inB
  dsimp only
  by_cases h : n ≥ -1000000000
  · rw [if_pos (by simpa using h)]
    have : -1000000000 ≤ n := h
    simp [this]
  · rw [if_neg (by simpa using h)]
    have : ¬ -1000000000 ≤ n := h
    simp [this]
abbrev P.s_l01Dec_b0  (x1 : ((List Int) × (Int × (Int × Unit)))) (g2 : ((List Int) × (Int × (Int × Unit))) → Option (ByteArray × Unit)) : Option (ByteArray × Unit) :=
 (if (((((List.length x1.1) : Nat) : Int) == (0 : Int)) = true) then (if ((decide ((Int.tmod x1.2.1 (10 : Int)) < (0 : Int))) = true) then (if ((decide ((((List.length ((Go.IntKind.wrap Go.IntKind.u8 (Go.IntKind.wrap Go.IntKind.i64 ((48 : Int) + (Go.IntKind.wrap Go.IntKind.i64 ((0 : Int) - (Int.tmod x1.2.1 (10 : Int))))))) :: ([] : List Int))) + (List.length x1.1)) * (1 : Nat)) ≤ (140737488355328 : Nat))) = true) then (g2 ((((Go.IntKind.wrap Go.IntKind.u8 (Go.IntKind.wrap Go.IntKind.i64 ((48 : Int) + (Go.IntKind.wrap Go.IntKind.i64 ((0 : Int) - (Int.tmod x1.2.1 (10 : Int))))))) :: ([] : List Int)) ++ x1.1) , ((Go.IntKind.wrap Go.IntKind.i64 (Int.tdiv x1.2.1 (10 : Int))) , (x1.2.2.1 , ()))))
 else none)
 else (if ((decide ((((List.length ((Go.IntKind.wrap Go.IntKind.u8 (Go.IntKind.wrap Go.IntKind.i64 ((48 : Int) + (Int.tmod x1.2.1 (10 : Int))))) :: ([] : List Int))) + (List.length x1.1)) * (1 : Nat)) ≤ (140737488355328 : Nat))) = true) then (g2 ((((Go.IntKind.wrap Go.IntKind.u8 (Go.IntKind.wrap Go.IntKind.i64 ((48 : Int) + (Int.tmod x1.2.1 (10 : Int))))) :: ([] : List Int)) ++ x1.1) , ((Go.IntKind.wrap Go.IntKind.i64 (Int.tdiv x1.2.1 (10 : Int))) , (x1.2.2.1 , ()))))
 else none))
 else (if ((x1.2.1 != (0 : Int)) = true) then (if ((decide ((Int.tmod x1.2.1 (10 : Int)) < (0 : Int))) = true) then (if ((decide ((((List.length ((Go.IntKind.wrap Go.IntKind.u8 (Go.IntKind.wrap Go.IntKind.i64 ((48 : Int) + (Go.IntKind.wrap Go.IntKind.i64 ((0 : Int) - (Int.tmod x1.2.1 (10 : Int))))))) :: ([] : List Int))) + (List.length x1.1)) * (1 : Nat)) ≤ (140737488355328 : Nat))) = true) then (g2 ((((Go.IntKind.wrap Go.IntKind.u8 (Go.IntKind.wrap Go.IntKind.i64 ((48 : Int) + (Go.IntKind.wrap Go.IntKind.i64 ((0 : Int) - (Int.tmod x1.2.1 (10 : Int))))))) :: ([] : List Int)) ++ x1.1) , ((Go.IntKind.wrap Go.IntKind.i64 (Int.tdiv x1.2.1 (10 : Int))) , (x1.2.2.1 , ()))))
 else none)
 else (if ((decide ((((List.length ((Go.IntKind.wrap Go.IntKind.u8 (Go.IntKind.wrap Go.IntKind.i64 ((48 : Int) + (Int.tmod x1.2.1 (10 : Int))))) :: ([] : List Int))) + (List.length x1.1)) * (1 : Nat)) ≤ (140737488355328 : Nat))) = true) then (g2 ((((Go.IntKind.wrap Go.IntKind.u8 (Go.IntKind.wrap Go.IntKind.i64 ((48 : Int) + (Int.tmod x1.2.1 (10 : Int))))) :: ([] : List Int)) ++ x1.1) , ((Go.IntKind.wrap Go.IntKind.i64 (Int.tdiv x1.2.1 (10 : Int))) , (x1.2.2.1 , ()))))
 else none))
 else (if ((decide (x1.2.2.1 < (0 : Int))) = true) then (if ((decide ((((1 : Nat) + (List.length x1.1)) * (1 : Nat)) ≤ (140737488355328 : Nat))) = true) then (some ((strOf (((45 : Int) :: ([] : List Int)) ++ x1.1)) , ()))
 else none)
 else (some ((strOf x1.1) , ())))))
def P.s_l01Dec (k : Nat) (x : (Int × Unit)) : (Option (ByteArray × Unit)) :=
 (loopP (X := ((List Int) × (Int × (Int × Unit)))) (R := (ByteArray × Unit)) (P.s_l01Dec_b0 ) k (([] : List Int) , (x.1 , (x.1 , ()))))
/-- A number's digits, as Go's bytes. -/
def digI (u : Nat) : List Int := (Go.Lib.decDigits u).map fun b => (b.toNat : Int)
theorem digI_small {u : Nat} (h : u < 10) : digI u = [48 + (u : Int)] := by
  unfold digI
  rw [Go.Lib.decDigits, dif_pos h]
  simp only [List.map_cons, List.map_nil, List.cons.injEq, and_true]
  rw [UInt8.toNat_ofNat']
  omega
theorem digI_step {u : Nat} (h : ¬ u < 10) : digI u = digI (u / 10) ++ [48 + ((u % 10 : Nat) : Int)] := by
  unfold digI
  rw [Go.Lib.decDigits, dif_neg h, List.map_append]
  simp only [List.map_cons, List.map_nil]
  rw [UInt8.toNat_ofNat']
  congr 2
  omega
theorem digI_len (u : Nat) : (digI u).length ≤ u + 1 := by
  induction u using Nat.strongRecOn with
  | ind u ih =>
    by_cases h : u < 10
    · rw [digI_small h]; simp
    · rw [digI_step h, List.length_append]
      have := ih (u / 10) (by omega)
      simp
      omega
theorem strOf_map (l : List UInt8) : strOf (l.map fun b => (b.toNat : Int)) = ⟨l.toArray⟩ := by
  unfold strOf
  rw [List.map_map]
  have : ((fun n : Int => UInt8.ofNat n.toNat) ∘ fun b : UInt8 => (b.toNat : Int)) = id := by
    funext b
    simp
  rw [this, List.map_id]
theorem wr8 {x : Int} (h0 : 0 ≤ x) (h1 : x ≤ 255) : Go.IntKind.wrap Go.IntKind.u8 x = x := by
  show x % 256 = x
  omega
def sgn (neg : Bool) (u : Nat) : Int := if neg = true then -(u : Int) else (u : Int)
theorem sgn_tmod (neg : Bool) (u : Nat) : Int.tmod (sgn neg u) 10 = sgn neg (u % 10) := by
  cases neg
  · show Int.tmod (u : Int) 10 = ((u % 10 : Nat) : Int)
    rw [Int.tmod_eq_emod_of_nonneg (by omega)]
    omega
  · show Int.tmod (-(u : Int)) 10 = -((u % 10 : Nat) : Int)
    rw [Int.neg_tmod, Int.tmod_eq_emod_of_nonneg (by omega)]
    omega
theorem sgn_tdiv (neg : Bool) (u : Nat) : Int.tdiv (sgn neg u) 10 = sgn neg (u / 10) := by
  cases neg
  · show Int.tdiv (u : Int) 10 = ((u / 10 : Nat) : Int)
    rw [Int.tdiv_eq_ediv_of_nonneg (by omega)]
    omega
  · show Int.tdiv (-(u : Int)) 10 = -((u / 10 : Nat) : Int)
    rw [Int.neg_tdiv, Int.tdiv_eq_ediv_of_nonneg (by omega)]
    omega
/-- One round writes one digit. -/
theorem dec_round (neg : Bool) (u : Nat) (n : Int) (out : List Int) (g : ((List Int) × (Int × (Int × Unit))) → Option (ByteArray × Unit)) (hu : u ≤ 9223372036854775808) (hs : neg = false → u ≤ 9223372036854775807) (ho : out.length ≤ 1000) (hc : out = [] ∨ u ≠ 0) :
    P.s_l01Dec_b0 (out, sgn neg u, n, ()) g = g ((48 + ((u % 10 : Nat) : Int)) :: out, sgn neg (u / 10), n, ()) := by
  have hw : Go.IntKind.wrap Go.IntKind.i64 (sgn neg (u / 10)) = sgn neg (u / 10) := by
    apply wr <;> unfold sgn <;> split <;> omega
  have hA : ∀ (a b : Option (ByteArray × Unit)), (if ((decide (sgn neg (u % 10) < (0 : Int))) = true) then a else b) = (if (sgn neg (u % 10) < 0) then a else b) := by
    intro a b
    by_cases h : sgn neg (u % 10) < 0 <;> simp [h]
  have hneg : sgn neg (u % 10) < 0 → Go.IntKind.wrap Go.IntKind.i64 ((0 : Int) - sgn neg (u % 10)) = ((u % 10 : Nat) : Int) := by
    intro h
    unfold sgn at h ⊢
    split at h
    · rename_i hn
      rw [if_pos hn, wr (by omega) (by omega)]
      omega
    · omega
  have hpos : ¬ sgn neg (u % 10) < 0 → sgn neg (u % 10) = ((u % 10 : Nat) : Int) := by
    intro h
    unfold sgn at h ⊢
    split at h
    · rename_i hn
      rw [if_pos hn]
      omega
    · rename_i hn
      rw [if_neg hn]
  have hch : Go.IntKind.wrap Go.IntKind.u8 (Go.IntKind.wrap Go.IntKind.i64 ((48 : Int) + ((u % 10 : Nat) : Int))) = 48 + ((u % 10 : Nat) : Int) := by
    rw [wr (by omega) (by omega), wr8 (by omega) (by omega)]
  have hlen : ∀ c : Int, ((List.length (c :: ([] : List Int)) + List.length out) * 1 ≤ 140737488355328) := by
    intro c
    simp
    omega
  unfold P.s_l01Dec_b0
  dsimp only
  have hu0 : u ≠ 0 → sgn neg u ≠ 0 := by
    intro h
    unfold sgn
    split <;> omega
  simp only [hA, sgn_tmod, sgn_tdiv, hw]
  have hin : ∀ X Y : Option (ByteArray × Unit), (sgn neg (u % 10) < 0 → X = g ((48 + ((u % 10 : Nat) : Int)) :: out, sgn neg (u / 10), n, ())) → (¬ sgn neg (u % 10) < 0 → Y = g ((48 + ((u % 10 : Nat) : Int)) :: out, sgn neg (u / 10), n, ())) →
      (if sgn neg (u % 10) < 0 then X else Y) = g ((48 + ((u % 10 : Nat) : Int)) :: out, sgn neg (u / 10), n, ()) := by
    intro X Y h1 h2
    split
    · exact h1 (by assumption)
    · exact h2 (by assumption)
  have key : (if sgn neg (u % 10) < 0 then (if ((decide (((List.length ((Go.IntKind.wrap Go.IntKind.u8 (Go.IntKind.wrap Go.IntKind.i64 ((48 : Int) + (Go.IntKind.wrap Go.IntKind.i64 ((0 : Int) - sgn neg (u % 10)))))) :: ([] : List Int)) + (List.length out)) * (1 : Nat)) ≤ (140737488355328 : Nat))) = true) then (g ((((Go.IntKind.wrap Go.IntKind.u8 (Go.IntKind.wrap Go.IntKind.i64 ((48 : Int) + (Go.IntKind.wrap Go.IntKind.i64 ((0 : Int) - sgn neg (u % 10)))))) :: ([] : List Int)) ++ out) , (sgn neg (u / 10) , (n , ())))) else none)
      else (if ((decide (((List.length ((Go.IntKind.wrap Go.IntKind.u8 (Go.IntKind.wrap Go.IntKind.i64 ((48 : Int) + sgn neg (u % 10)))) :: ([] : List Int)) + (List.length out)) * (1 : Nat)) ≤ (140737488355328 : Nat))) = true) then (g ((((Go.IntKind.wrap Go.IntKind.u8 (Go.IntKind.wrap Go.IntKind.i64 ((48 : Int) + sgn neg (u % 10)))) :: ([] : List Int)) ++ out) , (sgn neg (u / 10) , (n , ())))) else none)) = g ((48 + ((u % 10 : Nat) : Int)) :: out, sgn neg (u / 10), n, ()) := by
    refine hin _ _ (fun h => ?_) (fun h => ?_)
    · rw [if_pos (decide_eq_true (hlen _)), hneg h, hch]
      rfl
    · rw [if_pos (decide_eq_true (hlen _)), hpos h, hch]
      rfl
  rcases hc with rfl | hc
  · rw [if_pos (by rfl)]
    exact key
  · by_cases ho' : ((((List.length out) : Nat) : Int) == (0 : Int)) = true
    · rw [if_pos ho']
      exact key
    · rw [if_neg ho', if_pos (by simpa using hu0 hc)]
      exact key
theorem dec_end (neg : Bool) (n : Int) (out : List Int) (g : ((List Int) × (Int × (Int × Unit))) → Option (ByteArray × Unit)) (ho : out.length ≤ 1000) (hc : out ≠ []) :
    P.s_l01Dec_b0 (out, sgn neg 0, n, ()) g = some (strOf (if n < 0 then 45 :: out else out), ()) := by
  unfold P.s_l01Dec_b0
  dsimp only
  have h0 : sgn neg 0 = 0 := by cases neg <;> rfl
  rw [if_neg (by simpa using hc), h0, if_neg (by decide)]
  by_cases hn : n < 0
  · rw [if_pos (decide_eq_true hn), if_pos (decide_eq_true (by omega)), if_pos hn]
    rfl
  · rw [if_neg (by simpa using hn), if_neg hn]
theorem dec_loop (neg : Bool) (n : Int) : ∀ (u : Nat) (out : List Int) (k : Nat), u ≠ 0 → u ≤ 9223372036854775808 → (neg = false → u ≤ 9223372036854775807) → out.length + u.log2 ≤ 900 → u.log2 + 2 ≤ k →
    loopP P.s_l01Dec_b0 k (out, sgn neg u, n, ()) = some (strOf (if n < 0 then 45 :: (digI u ++ out) else digI u ++ out), ()) := by
  intro u
  induction u using Nat.strongRecOn with
  | ind u ih =>
    intro out k h0 hu hs ho hk
    obtain ⟨k, rfl⟩ : ∃ j, k = j + 1 := ⟨k - 1, by omega⟩
    rw [loopP_succ, dec_round neg u n out _ hu hs (by omega) (.inr h0)]
    by_cases h : u < 10
    · have e : u / 10 = 0 := by omega
      obtain ⟨k, rfl⟩ : ∃ j, k = j + 1 := ⟨k - 1, by omega⟩
      rw [e, loopP_succ, dec_end neg n _ _ (by simp; omega) (by simp), digI_small h, Nat.mod_eq_of_lt h]
      rfl
    · have hl : (u / 10).log2 + 1 ≤ u.log2 := by
        have h2 : u / 10 ≠ 0 := by omega
        have a1 : 2 ^ (u / 10).log2 ≤ u / 10 := Nat.log2_self_le h2
        have a2 : 2 ^ ((u / 10).log2 + 1) ≤ u := by rw [Nat.pow_succ]; omega
        exact (Nat.le_log2 h0).2 a2
      rw [ih (u / 10) (by omega) _ k (by omega) (by omega) (fun hn => by have := hs hn; omega) (by simp; omega) (by omega), digI_step h]
      simp
def S.s_l01Dec (x : (Int × Unit)) : (Option (ByteArray × Unit)) := if -9223372036854775808 ≤ x.1 ∧ x.1 ≤ 9223372036854775807 then some (⟨(Go.Lib.itoa x.1).toArray⟩, ()) else none
theorem S.s_l01Dec_ok (x : (Int × Unit)) (r : _) (h : S.s_l01Dec x = some r) : ∃ k, P.s_l01Dec k x = some r := by
  obtain ⟨n, u⟩ := x
  unfold S.s_l01Dec at h
  dsimp only at h
  split at h
  case isFalse => cases h
  rename_i hn
  cases h
  refine ⟨200, ?_⟩
  unfold P.s_l01Dec
  dsimp only
  have hsg : ∃ neg, n = sgn neg n.natAbs ∧ (neg = true ↔ n < 0) := by
    by_cases h : n < 0
    · exact ⟨true, by unfold sgn; simp; omega, by simp [h]⟩
    · exact ⟨false, by unfold sgn; simp; omega, by simp [h]⟩
  obtain ⟨neg, h1, h2⟩ := hsg
  have hfin : strOf (if n < 0 then 45 :: digI n.natAbs else digI n.natAbs) = ⟨(Go.Lib.itoa n).toArray⟩ := by
    unfold Go.Lib.itoa digI
    split
    · rw [← strOf_map]
      rfl
    · rw [← strOf_map]
      have : n.natAbs = n.toNat := by omega
      rw [this]
  by_cases h0 : n.natAbs = 0
  · have hn0 : n = 0 := by omega
    subst hn0
    have e0 : (0 : Int) = sgn false 0 := rfl
    show loopP P.s_l01Dec_b0 (198 + 1 + 1) ([], 0, 0, ()) = _
    rw [loopP_succ]
    conv => lhs; rw [show (([] : List Int), (0 : Int), (0 : Int), ()) = ([], sgn false 0, 0, ()) from rfl]
    rw [dec_round false 0 0 [] _ (by omega) (by omega) (by simp) (.inl rfl), loopP_succ, show 0 / 10 = 0 from rfl, dec_end false 0 _ _ (by simp) (by simp), ← hfin]
    rw [show (0 : Int).natAbs = 0 from rfl, digI_small (by omega)]
  · have hb : n.natAbs ≤ 9223372036854775808 := by omega
    have hl : n.natAbs.log2 ≤ 64 := by
      have : n.natAbs.log2 < 65 := (Nat.log2_lt h0).2 (by omega)
      omega
    have := dec_loop neg n n.natAbs [] 200 h0 hb (fun hf => by
      have : ¬ n < 0 := fun h => by rw [h2.2 h] at hf; cases hf
      omega) (by simp; omega) (by omega)
    rw [← h1] at this
    rw [this, List.append_nil, hfin]
abbrev P.s_l01Value_b0  (x1 : (Int × (ByteArray × (Int × Unit)))) (g2 : (Int × (ByteArray × (Int × Unit))) → Option ((Int × Bool) × Unit)) : Option ((Int × Bool) × Unit) :=
 (if ((decide (x1.1 < (((ByteArray.size x1.2.1) : Nat) : Int))) = true) then (if ((decide ((0 : Int) ≤ x1.1)) = true) then (if ((decide (x1.1 < (((ByteArray.size x1.2.1) : Nat) : Int))) = true) then (if ((decide ((byteAt x1.2.1 x1.1) ≥ (48 : Int))) = true) then (if ((decide ((0 : Int) ≤ x1.1)) = true) then (if ((decide (x1.1 < (((ByteArray.size x1.2.1) : Nat) : Int))) = true) then (if ((decide ((byteAt x1.2.1 x1.1) ≤ (57 : Int))) = true) then (if ((decide ((0 : Int) ≤ x1.1)) = true) then (if ((decide (x1.1 < (((ByteArray.size x1.2.1) : Nat) : Int))) = true) then (g2 ((Go.IntKind.wrap Go.IntKind.i64 (x1.1 + (1 : Int))) , (x1.2.1 , ((Go.IntKind.wrap Go.IntKind.i64 ((Go.IntKind.wrap Go.IntKind.i64 ((10 : Int) * x1.2.2.1)) + (Go.IntKind.wrap Go.IntKind.i64 (Go.IntKind.wrap Go.IntKind.u8 ((byteAt x1.2.1 x1.1) - (48 : Int)))))) , ()))))
 else none)
 else none)
 else (g2 ((Go.IntKind.wrap Go.IntKind.i64 (x1.1 + (1 : Int))) , (x1.2.1 , (x1.2.2.1 , ())))))
 else none)
 else none)
 else (g2 ((Go.IntKind.wrap Go.IntKind.i64 (x1.1 + (1 : Int))) , (x1.2.1 , (x1.2.2.1 , ())))))
 else none)
 else none)
 else (if ((decide ((0 : Int) < (((ByteArray.size x1.2.1) : Nat) : Int))) = true) then (if (((byteAt x1.2.1 (0 : Int)) == (45 : Int)) = true) then (Option.bind (S.s_l00In ((Go.IntKind.wrap Go.IntKind.i64 ((0 : Int) - x1.2.2.1)) , ((-1000000000 : Int) , ((1000000000 : Int) , ())))) (fun (y3 : (Bool × Unit)) => (if ((!y3.1) = true) then (some (((0 : Int) , false) , ()))
 else (Option.bind (S.s_l01Dec ((Go.IntKind.wrap Go.IntKind.i64 ((0 : Int) - x1.2.2.1)) , ())) (fun (y4 : (ByteArray × Unit)) => (if ((!((ByteArray.toList y4.1) == (ByteArray.toList x1.2.1))) = true) then (some (((0 : Int) , false) , ()))
 else (some (((Go.IntKind.wrap Go.IntKind.i64 ((0 : Int) - x1.2.2.1)) , true) , ()))))))))
 else (Option.bind (S.s_l00In (x1.2.2.1 , ((-1000000000 : Int) , ((1000000000 : Int) , ())))) (fun (y5 : (Bool × Unit)) => (if ((!y5.1) = true) then (some (((0 : Int) , false) , ()))
 else (Option.bind (S.s_l01Dec (x1.2.2.1 , ())) (fun (y6 : (ByteArray × Unit)) => (if ((!((ByteArray.toList y6.1) == (ByteArray.toList x1.2.1))) = true) then (some (((0 : Int) , false) , ()))
 else (some ((x1.2.2.1 , true) , ())))))))))
 else none))
def P.s_l01Value (k : Nat) (x : (ByteArray × Unit)) : (Option ((Int × Bool) × Unit)) :=
 (if ((decide ((((ByteArray.size x.1) : Nat) : Int) < (1 : Int))) = true) then (some (((0 : Int) , false) , ()))
 else (if ((decide ((((ByteArray.size x.1) : Nat) : Int) > (11 : Int))) = true) then (some (((0 : Int) , false) , ()))
 else (loopP (X := (Int × (ByteArray × (Int × Unit)))) (R := ((Int × Bool) × Unit)) (P.s_l01Value_b0 ) k ((0 : Int) , (x.1 , ((0 : Int) , ()))))))
theorem decDigits_len10 (k : Nat) : ∀ u : Nat, u < 10 ^ (k + 1) → (Go.Lib.decDigits u).length ≤ k + 1 := by
  induction k with
  | zero => intro u h; rw [Go.Lib.decDigits, dif_pos (by omega)]; simp
  | succ k ih =>
    intro u h
    rw [Go.Lib.decDigits]
    split
    · simp
    · have := ih (u / 10) (by rw [Nat.pow_succ] at h; omega)
      simp
      omega
/-- One byte more of a number. -/
def digStep (a : Nat) (c : UInt8) : Nat := if 48 ≤ c.toNat ∧ c.toNat ≤ 57 then 10 * a + (c.toNat - 48) else a
/-- What a text's digits spell. -/
def digVal (l : List UInt8) : Nat := l.foldl digStep 0
theorem digStep_lt (a : Nat) (c : UInt8) (m : Nat) (h : a < m) : digStep a c < 10 * m := by
  unfold digStep
  split <;> omega
theorem digVal_lt (l : List UInt8) : digVal l < 10 ^ l.length := by
  have key : ∀ (l : List UInt8) (a m : Nat), a < m → l.foldl digStep a < m * 10 ^ l.length := by
    intro l
    induction l with
    | nil => intro a m h; simpa using h
    | cons c r ih =>
      intro a m h
      have := ih (digStep a c) (10 * m) (digStep_lt a c m h)
      rw [List.foldl_cons, List.length_cons, Nat.pow_succ]
      have e : 10 * m * 10 ^ r.length = m * (10 ^ r.length * 10) := by
        rw [Nat.mul_comm 10 m, Nat.mul_assoc, Nat.mul_comm 10]
      omega
  have := key l 0 1 (by omega)
  simpa [digVal] using this
theorem digVal_snoc (l : List UInt8) (c : UInt8) : digVal (l ++ [c]) = digStep (digVal l) c := by simp [digVal]
theorem u8d (n : Nat) (h : n < 10) : (UInt8.ofNat (48 + n)).toNat = 48 + n := by
  simp
  omega
theorem digVal_dec (u : Nat) : digVal (Go.Lib.decDigits u) = u := by
  induction u using Nat.strongRecOn with
  | ind u ih =>
    rw [Go.Lib.decDigits]
    split
    · rename_i h
      show digStep 0 _ = u
      unfold digStep
      rw [u8d u h]
      split <;> omega
    · rename_i h
      rw [digVal_snoc, ih (u / 10) (by omega)]
      unfold digStep
      rw [u8d _ (Nat.mod_lt _ (by omega))]
      split <;> omega
theorem decDigits_all (u : Nat) : ∀ c ∈ Go.Lib.decDigits u, 48 ≤ c.toNat ∧ c.toNat ≤ 57 := by
  induction u using Nat.strongRecOn with
  | ind u ih =>
    intro c hc
    rw [Go.Lib.decDigits] at hc
    split at hc
    · rename_i h
      simp only [List.mem_singleton] at hc
      subst hc
      rw [u8d u h]
      omega
    · rename_i h
      rw [List.mem_append, List.mem_singleton] at hc
      rcases hc with hc | rfl
      · exact ih (u / 10) (by omega) c hc
      · rw [u8d _ (Nat.mod_lt _ (by omega))]
        omega
theorem decDigits_ne (u : Nat) : Go.Lib.decDigits u ≠ [] := by
  rw [Go.Lib.decDigits]
  split <;> simp
/-- A text's number, by its sign. -/
def sval (l : List UInt8) : Int := if l.head? = some 45 then -(digVal l : Int) else (digVal l : Int)
theorem sval_itoa (n : Int) : sval (Go.Lib.itoa n) = n := by
  unfold Go.Lib.itoa
  split
  · unfold sval
    rw [if_pos (by simp)]
    have : digVal (45 :: Go.Lib.decDigits n.natAbs) = digVal (Go.Lib.decDigits n.natAbs) := rfl
    rw [this, digVal_dec]
    omega
  · unfold sval
    have : ¬ (Go.Lib.decDigits n.toNat).head? = some 45 := by
      intro h
      have := decDigits_all n.toNat 45 (List.mem_of_mem_head? h)
      simp at this
    rw [if_neg this, digVal_dec]
    omega
theorem itoa_short (n : Int) (h : inB n = true) : (Go.Lib.itoa n).length ≤ 11 := by
  rw [inB_iff] at h
  unfold Go.Lib.itoa
  split
  · have := decDigits_len10 9 n.natAbs (by omega)
    simp
    omega
  · have := decDigits_len10 9 n.toNat (by omega)
    omega
/-- The number that a text tells, when it is some number's own text. -/
def rdNum (l : List UInt8) : Int × Bool := if l.length ≤ 11 ∧ inB (sval l) = true ∧ Go.Lib.itoa (sval l) = l then (sval l, true) else (0, false)
theorem rdNum_itoa (n : Int) (h : inB n = true) : rdNum (Go.Lib.itoa n) = (n, true) := by
  unfold rdNum
  rw [sval_itoa, if_pos ⟨itoa_short n h, h, rfl⟩]
theorem rdNum_none (l : List UInt8) (h : ∀ n, inB n = true → Go.Lib.itoa n ≠ l) : rdNum l = (0, false) := by
  unfold rdNum
  rw [if_neg (fun q => h _ q.2.1 q.2.2)]
def S.s_l01Value (x : (ByteArray × Unit)) : (Option ((Int × Bool) × Unit)) := some (rdNum x.1.data.toList, ())
theorem l01Value_end (s : ByteArray) (n : Int) (h0 : -100000000000 ≤ n) (h1 : n ≤ 100000000000) (hn : sval s.data.toList = n) (hl : s.data.toList.length ≤ 11) :
    Option.bind (S.s_l00In (n, -1000000000, 1000000000, ())) (fun (y3 : (Bool × Unit)) => (if ((!y3.1) = true) then (some (((0 : Int) , false) , ()))
 else (Option.bind (S.s_l01Dec (n , ())) (fun (y4 : (ByteArray × Unit)) => (if ((!((ByteArray.toList y4.1) == (ByteArray.toList s))) = true) then (some (((0 : Int) , false) , ()))
 else (some ((n , true) , ()))))))) = some (rdNum s.data.toList, ()) := by
  rw [in_s, Option.bind_some]
  dsimp only
  unfold rdNum
  rw [hn]
  cases hq : inB n
  · simp
  · have hd : S.s_l01Dec (n, ()) = some (⟨(Go.Lib.itoa n).toArray⟩, ()) := by
      rw [inB_iff] at hq
      unfold S.s_l01Dec
      dsimp only
      rw [if_pos (by omega)]
    rw [if_neg (by simp), hd, Option.bind_some]
    dsimp only
    rw [ByteArray.toList_eq, ByteArray.toList_eq]
    by_cases he : Go.Lib.itoa n = s.data.toList
    · rw [if_neg (by simp [he]), if_pos ⟨hl, rfl, he⟩]
    · rw [if_pos (by simp [he]), if_neg (fun q => he q.2.2)]
theorem u8sub (c : UInt8) (h : 48 ≤ c.toNat) : Go.IntKind.wrap Go.IntKind.u8 ((c.toNat : Int) - 48) = (c.toNat : Int) - 48 := IntWalk.u8_in _ (by have := c.toNat_lt; omega)
theorem S.s_l01Value_ok (x : (ByteArray × Unit)) (r : _) (h : S.s_l01Value x = some r) : ∃ k, P.s_l01Value k x = some r := by
  obtain ⟨s, u⟩ := x
  unfold S.s_l01Value at h
  dsimp only at h
  refine ⟨12, ?_⟩
  unfold P.s_l01Value
  dsimp only
  have hs : s.size = s.data.toList.length := by rw [Array.length_toList]; rfl
  rw [hs]
  rw [← h]
  generalize hL : s.data.toList = l
  by_cases h1 : l.length < 1
  · rw [if_pos (decide_eq_true (by omega))]
    have : l = [] := List.eq_nil_of_length_eq_zero (by omega)
    subst this
    rw [rdNum_none]
    intro n _ hn
    unfold Go.Lib.itoa at hn
    split at hn
    · simp at hn
    · exact decDigits_ne _ hn
  · by_cases h2 : l.length > 11
    · rw [if_neg (by simp; omega), if_pos (decide_eq_true (by omega))]
      unfold rdNum
      rw [if_neg (fun q => by omega)]
    · rw [if_neg (by simp; omega), if_neg (by simp; omega)]
      have key := loop_up0 (k := 12) (b := P.s_l01Value_b0) (n := l.length) (st := fun i => ((i : Int), s, (digVal (l.take i) : Int), ())) (F := fun i => some (rdNum l, ())) (fun i g hi hg => by
        unfold P.s_l01Value_b0
        dsimp only at hg ⊢
        rw [hs, hL]
        have e1 : (i : Int) < (l.length : Int) := by omega
        have e2 : (0 : Int) ≤ (i : Int) := by omega
        simp only [e1, e2, decide_true, if_true]
        have hb : byteAt s (i : Int) = (l[i].toNat : Int) := by
          unfold byteAt
          rw [hL, getD_cast l i _ hi]
        have hv := digVal_lt (l.take i)
        have hp : 10 ^ (l.take i).length ≤ 10 ^ 11 := Nat.pow_le_pow_right (by omega) (by simp; omega)
        have hsn : digVal (l.take (i + 1)) = digStep (digVal (l.take i)) l[i] := by
          rw [← List.take_append_getElem hi, digVal_snoc]
        have hc := l[i].toNat_lt
        rw [hb, wr (x := (i : Int) + 1) (by omega) (by omega)]
        rw [hsn] at hg
        unfold digStep at hg
        by_cases c1 : 48 ≤ l[i].toNat
        · rw [if_pos (decide_eq_true (by omega))]
          by_cases c2 : l[i].toNat ≤ 57
          · rw [if_pos (decide_eq_true (by omega)), u8sub _ c1, wr (x := (l[i].toNat : Int) - 48) (by omega) (by omega), wr (x := 10 * (digVal (l.take i) : Int)) (by omega) (by omega), wr (by omega) (by omega), ← hg, if_pos ⟨c1, c2⟩]
            congr 1
            simp only [Prod.mk.injEq]
            refine ⟨by omega, trivial, by omega, trivial⟩
          · rw [if_neg (by simp; omega), ← hg, if_neg (fun q => c2 q.2)]
            rfl
        · rw [if_neg (by simp; omega), ← hg, if_neg (fun q => c1 q.1)]
          rfl) (fun g => by
        unfold P.s_l01Value_b0
        dsimp only
        rw [hs, hL, List.take_length]
        have hv := digVal_lt l
        have hp : 10 ^ l.length ≤ 10 ^ 11 := Nat.pow_le_pow_right (by omega) (by omega)
        rw [if_neg (by simp), if_pos (decide_eq_true (by omega)), wr (by omega) (by omega)]
        have hb : byteAt s 0 = (l[0].toNat : Int) := by
          unfold byteAt
          rw [hL]
          simp [show 0 < l.length by omega]
        rw [hb]
        have hh : l.head? = some l[0] := by
          cases l with
          | nil => simp at h1
          | cons c r => rfl
        by_cases c1 : l[0].toNat = 45
        · rw [if_pos (by simp [c1])]
          have hs2 : sval s.data.toList = 0 - (digVal l : Int) := by
            rw [hL]
            unfold sval
            rw [hh, if_pos (by rw [Option.some.injEq]; exact UInt8.toNat_inj.1 c1)]
            omega
          rw [l01Value_end s _ (by omega) (by omega) hs2 (by rw [hL]; omega), hL]
        · rw [if_neg (by simp; omega)]
          have hs2 : sval s.data.toList = (digVal l : Int) := by
            rw [hL]
            unfold sval
            rw [hh, if_neg (by rw [Option.some.injEq]; intro q; rw [q] at c1; exact c1 rfl)]
          rw [l01Value_end s _ (by omega) (by omega) hs2 (by rw [hL]; omega), hL]) (by omega)
      exact key
abbrev P.s_l01Cut_b0  (x1 : (Int × (ByteArray × (Int × ((List ByteArray) × (Int × Unit)))))) (g2 : (Int × (ByteArray × (Int × ((List ByteArray) × (Int × Unit))))) → Option ((List ByteArray) × Unit)) : Option ((List ByteArray) × Unit) :=
 (if ((decide (x1.1 ≤ (((ByteArray.size x1.2.1) : Nat) : Int))) = true) then (if ((x1.1 == (((ByteArray.size x1.2.1) : Nat) : Int)) = true) then (if ((decide ((0 : Int) ≤ x1.1)) = true) then (if ((decide (x1.1 ≤ (((ByteArray.size x1.2.1) : Nat) : Int))) = true) then (if ((decide ((0 : Int) ≤ x1.2.2.2.2.1)) = true) then (if ((decide (x1.2.2.2.2.1 ≤ x1.1)) = true) then (if ((decide ((((List.length x1.2.2.2.1) + (List.length ((ByteArray.extract x1.2.1 (Int.toNat x1.2.2.2.2.1) (Int.toNat x1.1)) :: ([] : List ByteArray)))) * (16 : Nat)) ≤ (140737488355328 : Nat))) = true) then (g2 ((Go.IntKind.wrap Go.IntKind.i64 (x1.1 + (1 : Int))) , (x1.2.1 , (x1.2.2.1 , ((x1.2.2.2.1 ++ ((ByteArray.extract x1.2.1 (Int.toNat x1.2.2.2.2.1) (Int.toNat x1.1)) :: ([] : List ByteArray))) , ((Go.IntKind.wrap Go.IntKind.i64 (x1.1 + (1 : Int))) , ()))))))
 else none)
 else none)
 else none)
 else none)
 else none)
 else (if ((decide ((0 : Int) ≤ x1.1)) = true) then (if ((decide (x1.1 < (((ByteArray.size x1.2.1) : Nat) : Int))) = true) then (if (((byteAt x1.2.1 x1.1) == x1.2.2.1) = true) then (if ((decide ((0 : Int) ≤ x1.1)) = true) then (if ((decide (x1.1 ≤ (((ByteArray.size x1.2.1) : Nat) : Int))) = true) then (if ((decide ((0 : Int) ≤ x1.2.2.2.2.1)) = true) then (if ((decide (x1.2.2.2.2.1 ≤ x1.1)) = true) then (if ((decide ((((List.length x1.2.2.2.1) + (List.length ((ByteArray.extract x1.2.1 (Int.toNat x1.2.2.2.2.1) (Int.toNat x1.1)) :: ([] : List ByteArray)))) * (16 : Nat)) ≤ (140737488355328 : Nat))) = true) then (g2 ((Go.IntKind.wrap Go.IntKind.i64 (x1.1 + (1 : Int))) , (x1.2.1 , (x1.2.2.1 , ((x1.2.2.2.1 ++ ((ByteArray.extract x1.2.1 (Int.toNat x1.2.2.2.2.1) (Int.toNat x1.1)) :: ([] : List ByteArray))) , ((Go.IntKind.wrap Go.IntKind.i64 (x1.1 + (1 : Int))) , ()))))))
 else none)
 else none)
 else none)
 else none)
 else none)
 else (g2 ((Go.IntKind.wrap Go.IntKind.i64 (x1.1 + (1 : Int))) , (x1.2.1 , (x1.2.2.1 , (x1.2.2.2.1 , (x1.2.2.2.2.1 , ())))))))
 else none)
 else none))
 else (some (x1.2.2.2.1 , ())))
def P.s_l01Cut (k : Nat) (x : (ByteArray × (Int × Unit))) : (Option ((List ByteArray) × Unit)) :=
 (loopP (X := (Int × (ByteArray × (Int × ((List ByteArray) × (Int × Unit)))))) (R := ((List ByteArray) × Unit)) (P.s_l01Cut_b0 ) k ((0 : Int) , (x.1 , (x.2.1 , (([] : List ByteArray) , ((0 : Int) , ()))))))
/-- What a loop that cuts at c has laid aside before i, and where the next part begins. -/
def cutUp (s : ByteArray) (c : Int) : Nat → List ByteArray × Nat
  | 0 => ([], 0)
  | i + 1 => if i = s.size ∨ byteAt s (i : Int) = c then ((cutUp s c i).1 ++ [s.extract (cutUp s c i).2 i], i + 1) else cutUp s c i
theorem cutUp_le (s : ByteArray) (c : Int) (i : Nat) : (cutUp s c i).1.length ≤ i ∧ (cutUp s c i).2 ≤ i := by
  induction i with
  | zero => exact ⟨Nat.le_refl _, Nat.le_refl _⟩
  | succ i ih =>
    unfold cutUp
    split
    · refine ⟨?_, Nat.le_refl _⟩
      simp
      omega
    · omega
def S.s_l01Cut (x : (ByteArray × (Int × Unit))) : (Option ((List ByteArray) × Unit)) := if x.1.size ≤ 1000000 then some ((cutUp x.1 x.2.1 (x.1.size + 1)).1, ()) else none
theorem S.s_l01Cut_ok (x : (ByteArray × (Int × Unit))) (r : _) (h : S.s_l01Cut x = some r) : ∃ k, P.s_l01Cut k x = some r := by
  obtain ⟨s, c, u⟩ := x
  unfold S.s_l01Cut at h
  dsimp only at h
  split at h
  case isFalse => cases h
  rename_i hs
  cases h
  refine ⟨s.size + 2, ?_⟩
  unfold P.s_l01Cut
  dsimp only
  have key := loop_up0 (k := s.size + 2) (b := P.s_l01Cut_b0) (n := s.size + 1) (st := fun i => ((i : Int), s, c, (cutUp s c i).1, ((cutUp s c i).2 : Int), ())) (F := fun i => some ((cutUp s c (s.size + 1)).1, ())) (fun i g hi hg => by
    unfold P.s_l01Cut_b0
    dsimp only at hg ⊢
    obtain ⟨q1, q2⟩ := cutUp_le s c i
    have e1 : (i : Int) ≤ (s.size : Int) := by omega
    have e2 : (0 : Int) ≤ (i : Int) := by omega
    have e3 : (0 : Int) ≤ ((cutUp s c i).2 : Int) := by omega
    have e4 : ((cutUp s c i).2 : Int) ≤ (i : Int) := by omega
    have e5 : ((cutUp s c i).1.length + ([s.extract (cutUp s c i).2 i] : List ByteArray).length) * 16 ≤ 140737488355328 := by simp; omega
    rw [cutUp] at hg
    by_cases hq : i = s.size
    · rw [if_pos (.inl hq)] at hg
      rw [← hg]
      have e6 : ((i : Int) == (s.size : Int)) = true := by simp [hq]
      simp only [e1, e2, e3, e4, e6, decide_true, if_true, Int.toNat_natCast]
      rw [if_pos (decide_eq_true e5), wr (by omega) (by omega)]
      rfl
    · have e6 : ¬ ((i : Int) == (s.size : Int)) = true := by simp; omega
      have e7 : (i : Int) < (s.size : Int) := by omega
      rw [if_pos (decide_eq_true e1), if_neg e6, if_pos (decide_eq_true e2), if_pos (decide_eq_true e7)]
      by_cases hb : byteAt s (i : Int) = c
      · rw [if_pos (.inr hb)] at hg
        rw [← hg, if_pos (by simp [hb])]
        simp only [e1, e2, e3, e4, decide_true, if_true, Int.toNat_natCast]
        rw [if_pos (decide_eq_true e5), wr (by omega) (by omega)]
        rfl
      · rw [if_neg (fun z => z.elim hq hb)] at hg
        rw [← hg, if_neg (by simp [hb]), wr (by omega) (by omega)]
        rfl) (fun g => by
    unfold P.s_l01Cut_b0
    dsimp only
    rw [if_neg (by simp; omega)]) (by omega)
  exact key
/-- A text's parts between the bytes c. -/
def glue (p : List UInt8) : List (List UInt8) → List (List UInt8)
  | [] => [p]
  | q :: qs => (p ++ q) :: qs
def pieces (c : UInt8) : List UInt8 → List (List UInt8)
  | [] => [[]]
  | b :: r => if b = c then [] :: pieces c r else glue [b] (pieces c r)
theorem pieces_ne (c : UInt8) (l : List UInt8) : pieces c l ≠ [] := by
  cases l with
  | nil => simp [pieces]
  | cons b r =>
    unfold pieces
    split
    · simp
    · cases pieces c r <;> simp [glue]
theorem glue_nil {q : List (List UInt8)} (h : q ≠ []) : glue [] q = q := by
  cases q with
  | nil => exact (h rfl).elim
  | cons a b => rfl
theorem glue_glue (p q : List UInt8) (r : List (List UInt8)) : glue p (glue q r) = glue (p ++ q) r := by
  cases r <;> simp [glue]
theorem pieces_len (c : UInt8) (l : List UInt8) : ∀ p ∈ pieces c l, p.length ≤ l.length := by
  induction l with
  | nil => intro p hp; simp [pieces] at hp; subst hp; simp
  | cons b r ih =>
    intro p hp
    unfold pieces at hp
    split at hp
    · rcases List.mem_cons.1 hp with rfl | hp
      · simp
      · have := ih p hp
        simp; omega
    · cases hr : pieces c r with
      | nil => exact (pieces_ne c r hr).elim
      | cons q qs =>
        rw [hr] at hp ih
        rcases List.mem_cons.1 hp with rfl | hp
        · have := ih q (by simp)
          simp; omega
        · have := ih p (by simp [hp])
          simp; omega
theorem cutUp_pieces (s : ByteArray) (c : UInt8) : (cutUp s (c.toNat : Int) (s.size + 1)).1.map (·.data.toList) = pieces c s.data.toList := by
  have hsz : s.size = s.data.toList.length := by rw [Array.length_toList]; rfl
  have hex : ∀ a b, (s.extract a b).data.toList = (s.data.toList.take b).drop a := by
    intro a b
    simp [ByteArray.data_extract, Array.toList_extract, List.extract_eq_take_drop, List.drop_take]
  have key : ∀ i, i ≤ s.size → pieces c s.data.toList = (cutUp s (c.toNat : Int) i).1.map (·.data.toList) ++ glue ((s.data.toList.take i).drop (cutUp s (c.toNat : Int) i).2) (pieces c (s.data.toList.drop i)) := by
    intro i
    induction i with
    | zero =>
      intro _
      simp [cutUp, glue_nil (pieces_ne c _)]
    | succ i ih =>
      intro hi
      rw [ih (by omega)]
      obtain ⟨q1, q2⟩ := cutUp_le s (c.toNat : Int) i
      have hi' : i < s.data.toList.length := by omega
      have hb : byteAt s (i : Int) = (s.data.toList[i].toNat : Int) := by
        unfold byteAt
        rw [getD_cast _ i _ hi']
      rw [List.drop_eq_getElem_cons hi', cutUp, pieces]
      by_cases hc : s.data.toList[i] = c
      · rw [if_pos hc, if_pos (.inr (by rw [hb, hc]))]
        simp only [List.map_append, List.map_cons, List.map_nil, hex, List.append_assoc]
        congr 1
        rw [show List.drop (i + 1) (List.take (i + 1) s.data.toList) = [] from List.drop_eq_nil_of_le (by simp; omega), glue_nil (pieces_ne c _)]
        simp [glue]
      · rw [if_neg hc, if_neg (by
          rw [hb]
          rintro (h | h)
          · omega
          · exact hc (UInt8.toNat_inj.1 (by omega)))]
        rw [glue_glue, ← List.take_append_getElem hi', List.drop_append_of_le_length (by simp; omega)]
  have h := key s.size (Nat.le_refl _)
  rw [h, cutUp, if_pos (.inl rfl)]
  simp only [List.map_append, List.map_cons, List.map_nil, hex]
  congr 1
  rw [show List.drop s.size s.data.toList = [] from List.drop_eq_nil_of_le (by omega)]
  simp [pieces, glue]
/-- What a list's parts tell. -/
def rdParts (ps : List (List UInt8)) : List Int × Bool := if ps.length > 300 then ([], false) else if ps.all (fun p => (rdNum p).2) = true then (ps.map fun p => (rdNum p).1, true) else ([], false)
def rdList (l : List UInt8) : List Int × Bool := if l = [110, 111, 110, 101] then ([], true) else rdParts (pieces 44 l)
abbrev P.s_l01Numbers_b1  (x2 : (Int × ((List ByteArray) × ((List Int) × Unit)))) (g3 : (Int × ((List ByteArray) × ((List Int) × Unit))) → Option (((List Int) × Bool) × Unit)) : Option (((List Int) × Bool) × Unit) :=
 (if ((decide (x2.1 < (((List.length x2.2.1) : Nat) : Int))) = true) then (if ((decide ((0 : Int) ≤ x2.1)) = true) then (if ((decide (x2.1 < (((List.length x2.2.1) : Nat) : Int))) = true) then (Option.bind (S.s_l01Value ((List.getD x2.2.1 (Int.toNat x2.1) (bs [])) , ())) (fun (y4 : ((Int × Bool) × Unit)) => (if ((!y4.1.2) = true) then (some ((([] : List Int) , false) , ()))
 else (if ((decide ((((List.length x2.2.2.1) + (List.length (y4.1.1 :: ([] : List Int)))) * (8 : Nat)) ≤ (140737488355328 : Nat))) = true) then (g3 ((Go.IntKind.wrap Go.IntKind.i64 (x2.1 + (1 : Int))) , (x2.2.1 , ((x2.2.2.1 ++ (y4.1.1 :: ([] : List Int))) , ()))))
 else none))))
 else none)
 else none)
 else (some ((x2.2.2.1 , true) , ())))
def P.s_l01Numbers (k : Nat) (x : (ByteArray × Unit)) : (Option (((List Int) × Bool) × Unit)) :=
 (if (((ByteArray.toList x.1) == (ByteArray.toList (bs [110, 111, 110, 101]))) = true) then (some ((([] : List Int) , true) , ()))
 else (Option.bind (S.s_l01Cut (x.1 , ((44 : Int) , ()))) (fun (y0 : ((List ByteArray) × Unit)) => (if ((decide ((((List.length y0.1) : Nat) : Int) > (300 : Int))) = true) then (some ((([] : List Int) , false) , ()))
 else (loopP (X := (Int × ((List ByteArray) × ((List Int) × Unit)))) (R := (((List Int) × Bool) × Unit)) (P.s_l01Numbers_b1 ) k ((0 : Int) , (y0.1 , (([] : List Int) , ()))))))))
/-- The parts' numbers. -/
def rdB (p : ByteArray) : Int × Bool := rdNum p.data.toList
def rdBs (ps : List ByteArray) : List Int × Bool := if ps.all (fun p => (rdB p).2) = true then (ps.map fun p => (rdB p).1, true) else ([], false)
theorem none_eq (s : ByteArray) : ((ByteArray.toList s == ByteArray.toList (bs [110, 111, 110, 101])) = true) ↔ s.data.toList = [110, 111, 110, 101] := by
  rw [ByteArray.toList_eq, ByteArray.toList_eq, beq_iff_eq]
  exact Iff.rfl
theorem rdParts_map (ps : List ByteArray) : rdParts (ps.map (·.data.toList)) = if ps.length > 300 then ([], false) else rdBs ps := by
  unfold rdParts rdBs
  rw [List.length_map, List.all_map, List.map_map]
  rfl
def S.s_l01Numbers (x : (ByteArray × Unit)) : (Option (((List Int) × Bool) × Unit)) := if x.1.size ≤ 1000000 then some (rdList x.1.data.toList, ()) else none
theorem S.s_l01Numbers_ok (x : (ByteArray × Unit)) (r : _) (h : S.s_l01Numbers x = some r) : ∃ k, P.s_l01Numbers k x = some r := by
  obtain ⟨s, u⟩ := x
  unfold S.s_l01Numbers at h
  dsimp only at h
  split at h
  case isFalse => cases h
  rename_i hs
  cases h
  refine ⟨400, ?_⟩
  unfold P.s_l01Numbers rdList
  dsimp only
  by_cases hn : s.data.toList = [110, 111, 110, 101]
  · rw [if_pos ((none_eq s).2 hn), if_pos hn]
  · rw [if_neg (fun q => hn ((none_eq s).1 q)), if_neg hn]
    have e0 : S.s_l01Cut (s, 44, ()) = some ((cutUp s 44 (s.size + 1)).1, ()) := by
      unfold S.s_l01Cut
      dsimp only
      rw [if_pos hs]
    have e1 : (cutUp s 44 (s.size + 1)).1.map (·.data.toList) = pieces 44 s.data.toList := cutUp_pieces s 44
    rw [e0, Option.bind_some, ← e1, rdParts_map]
    dsimp only
    generalize (cutUp s 44 (s.size + 1)).1 = ps
    by_cases hl : ps.length > 300
    · rw [if_pos (decide_eq_true (by omega)), if_pos hl]
    · rw [if_neg (by simp; omega), if_neg hl]
      have key := loop_up0 (k := 400) (b := P.s_l01Numbers_b1) (n := ps.length) (st := fun i => ((i : Int), ps, (ps.take i).map (fun p => (rdB p).1), ())) (F := fun i => some (if (ps.drop i).all (fun p => (rdB p).2) = true then (ps.map fun p => (rdB p).1, true) else ([], false), ())) (fun i g hi hg => by
        unfold P.s_l01Numbers_b1
        dsimp only at hg ⊢
        have a1 : (i : Int) < (ps.length : Int) := by omega
        have a2 : (0 : Int) ≤ (i : Int) := by omega
        simp only [a1, a2, decide_true, if_true]
        rw [getD_cast ps i _ hi, List.drop_eq_getElem_cons hi, List.all_cons]
        rw [show S.s_l01Value (ps[i], ()) = some (rdB ps[i], ()) from rfl, Option.bind_some]
        dsimp only
        cases hq : (rdB ps[i]).2
        · simp
        · rw [if_neg (by simp)]
          have a3 : (((ps.take i).map (fun p => (rdB p).1)).length + ((rdB ps[i]).1 :: ([] : List Int)).length) * 8 ≤ 140737488355328 := by
            simp; omega
          rw [if_pos (decide_eq_true a3), wr (by omega) (by omega)]
          have a4 : (ps.take i).map (fun p => (rdB p).1) ++ [(rdB ps[i]).1] = (ps.take (i + 1)).map (fun p => (rdB p).1) := by
            rw [← List.take_append_getElem hi, List.map_append]
            rfl
          rw [a4, Bool.true_and]
          exact hg) (fun g => by
        unfold P.s_l01Numbers_b1
        dsimp only
        rw [if_neg (by simp), List.drop_length, List.take_length, List.all_nil, if_pos rfl]) (by omega)
      refine (show _ = _ from key).trans ?_
      rfl
def P.s_ReadList (k : Nat) (x : (ByteArray × Unit)) : (Option (((List Int) × Bool) × Unit)) :=
 (Option.bind (S.s_l01Numbers (x.1 , ())) (fun (y0 : (((List Int) × Bool) × Unit)) => (some ((y0.1.1 , y0.1.2) , ()))))
def S.s_ReadList (x : (ByteArray × Unit)) : (Option (((List Int) × Bool) × Unit)) := P.s_ReadList 0 x
theorem S.s_ReadList_ok (x : (ByteArray × Unit)) (r : _) (h : S.s_ReadList x = some r) : ∃ k, P.s_ReadList k x = some r := ⟨0, h⟩
def S.strconv_ParseInt (x : (ByteArray × (Int × (Int × Unit)))) : (Option ((Int × Bool) × Unit)) := if x.2.1 = 10 ∧ x.2.2.1 = 64 ∧ x.1.size ≤ 281474976710656 then some (match Go.Lib.parseIntB 64 x.1.data.toList with | .ok v => ((v, false), ()) | .«syntax» => ((0, true), ()) | .range => ((Go.Lib.intSat 64 x.1.data.toList, true), ())) else none
def P.i_in (k : Nat) (x : (Int × (Int × (Int × Unit)))) : (Option (Bool × Unit)) :=
 (if ((decide (x.1 ≥ x.2.1)) = true) then (some ((decide (x.1 ≤ x.2.2.1)) , ()))
 else (some (false , ())))
def S.i_in (x : (Int × (Int × (Int × Unit)))) : (Option (Bool × Unit)) := P.i_in 0 x
theorem S.i_in_ok (x : (Int × (Int × (Int × Unit)))) (r : _) (h : S.i_in x = some r) : ∃ k, P.i_in k x = some r := ⟨0, h⟩
def S.strconv_FormatInt (x : (Int × (Int × Unit))) : (Option (ByteArray × Unit)) := if x.2.1 = 10 ∧ -9223372036854775808 ≤ x.1 ∧ x.1 ≤ 9223372036854775807 then some (⟨(Go.Lib.itoa x.1).toArray⟩, ()) else none
def P.i_Decimal (k : Nat) (x : (Int × Unit)) : (Option (ByteArray × Unit)) :=
 (Option.bind (S.strconv_FormatInt (x.1 , ((10 : Int) , ()))) (fun (y0 : (ByteArray × Unit)) => (some (y0.1 , ()))))
def S.i_Decimal (x : (Int × Unit)) : (Option (ByteArray × Unit)) := P.i_Decimal 0 x
theorem S.i_Decimal_ok (x : (Int × Unit)) (r : _) (h : S.i_Decimal x = some r) : ∃ k, P.i_Decimal k x = some r := ⟨0, h⟩
def P.i_ReadDecimal (k : Nat) (x : (ByteArray × Unit)) : (Option ((Int × Bool) × Unit)) :=
 (Option.bind (S.strconv_ParseInt (x.1 , ((10 : Int) , ((64 : Int) , ())))) (fun (y0 : ((Int × Bool) × Unit)) => (if (y0.1.2 = true) then (some (((0 : Int) , false) , ()))
 else (Option.bind (S.i_in (y0.1.1 , ((-1000000000 : Int) , ((1000000000 : Int) , ())))) (fun (y1 : (Bool × Unit)) => (if ((!y1.1) = true) then (some (((0 : Int) , false) , ()))
 else (Option.bind (S.i_Decimal (y0.1.1 , ())) (fun (y2 : (ByteArray × Unit)) => (if ((!((ByteArray.toList y2.1) == (ByteArray.toList x.1))) = true) then (some (((0 : Int) , false) , ()))
 else (some ((y0.1.1 , true) , ())))))))))))
theorem in_i2 (n : Int) : S.i_in (n, -1000000000, 1000000000, ()) = some (inB n, ()) := by
  unfold S.i_in P.i_in inB
  dsimp only
  by_cases h : -1000000000 ≤ n
  · by_cases h' : n ≤ 1000000000 <;> simp [h, h']
  · simp [h]
theorem dec_i2 (n : Int) (h : inB n = true) : S.i_Decimal (n, ()) = some (⟨(Go.Lib.itoa n).toArray⟩, ()) := by
  rw [inB_iff] at h
  unfold S.i_Decimal P.i_Decimal S.strconv_FormatInt
  dsimp only
  rw [if_pos ⟨rfl, by omega, by omega⟩]
  rfl
/-- The digits behind one another, read by the library. -/
theorem parseUintM_dig : ∀ (l : List UInt8) (a : Nat), (∀ c ∈ l, 48 ≤ c.toNat ∧ c.toNat ≤ 57) → a * 10 ^ l.length + 10 ^ l.length ≤ 10 ^ 18 → Go.Lib.parseUintM 18446744073709551615 a l = .ok (l.foldl digStep a) := by
  intro l
  induction l with
  | nil => intro a _ _; rfl
  | cons c r ih =>
    intro a hc hb
    have h0 := hc c (by simp)
    have hp : 1 ≤ 10 ^ r.length := Nat.one_le_pow _ _ (by omega)
    rw [List.length_cons, Nat.pow_succ] at hb
    have e1 : a * (10 ^ r.length * 10) = (a * 10) * 10 ^ r.length := by rw [Nat.mul_comm (10 ^ r.length) 10, Nat.mul_assoc]
    have hd : c.toNat - 48 ≤ 9 := by omega
    have e2 : (a * 10 + (c.toNat - 48)) * 10 ^ r.length + 10 ^ r.length ≤ 10 ^ 18 := by
      rw [Nat.add_mul]
      have : (c.toNat - 48) * 10 ^ r.length ≤ 9 * 10 ^ r.length := Nat.mul_le_mul_right _ hd
      omega
    have e3 : a * 10 + (c.toNat - 48) ≤ (a * 10 + (c.toNat - 48)) * 10 ^ r.length := Nat.le_mul_of_pos_right _ hp
    unfold Go.Lib.parseUintM
    rw [if_pos h0, if_neg (by omega), if_neg (by omega), ih _ (fun d hd => hc d (by simp [hd])) e2, List.foldl_cons]
    unfold digStep
    rw [if_pos h0, Nat.mul_comm a 10]
theorem parse_dec (u : Nat) (h : u ≤ 1000000000) : Go.Lib.parseUintB 64 (Go.Lib.decDigits u) = .ok u := by
  unfold Go.Lib.parseUintB
  rw [if_neg (decDigits_ne u)]
  have hl := decDigits_len10 9 u (by omega)
  have hp : 10 ^ (Go.Lib.decDigits u).length ≤ 10 ^ 10 := Nat.pow_le_pow_right (by omega) (by omega)
  rw [show (2 ^ 64 - 1 : Nat) = 18446744073709551615 by decide, parseUintM_dig _ 0 (decDigits_all u) (by omega)]
  exact congrArg _ (digVal_dec u)
theorem parse_itoa (n : Int) (h : inB n = true) : Go.Lib.parseIntB 64 (Go.Lib.itoa n) = .ok n := by
  rw [inB_iff] at h
  unfold Go.Lib.itoa
  split
  · unfold Go.Lib.parseIntB
    dsimp only
    rw [if_pos (by simp), parse_dec _ (by omega)]
    dsimp only
    rw [if_neg (fun q => q.1 (by simp)), if_neg (fun q => absurd q.2 (by simp; omega)), if_pos (by simp)]
    congr 1
    omega
  · rename_i hn
    match hd : Go.Lib.decDigits n.toNat, decDigits_ne n.toNat with
    | c :: r, _ =>
      have hc := decDigits_all n.toNat c (by rw [hd]; simp)
      unfold Go.Lib.parseIntB
      dsimp only
      rw [if_neg (by omega), ← hd, parse_dec _ (by omega)]
      dsimp only
      rw [if_neg (fun q => absurd q.2 (by simp; omega)), if_neg (fun q => by omega), if_neg (by omega)]
      congr 1
      omega
theorem rdP_eq (s : ByteArray) (h : s.size ≤ 1000000) : P.i_ReadDecimal 0 (s, ()) = some (rdNum s.data.toList, ()) := by
  unfold P.i_ReadDecimal S.strconv_ParseInt
  dsimp only
  rw [if_pos ⟨rfl, rfl, by omega⟩, Option.bind_some]
  have none : (∀ v, Go.Lib.parseIntB 64 s.data.toList ≠ .ok v) → rdNum s.data.toList = (0, false) := by
    intro hv
    apply rdNum_none
    intro n hn he
    exact hv n (by rw [← he, parse_itoa n hn])
  cases hp : Go.Lib.parseIntB 64 s.data.toList with
  | ok v =>
    dsimp only
    rw [if_neg (by simp), in_i2, Option.bind_some]
    dsimp only
    have uniq : ∀ n, inB n = true → Go.Lib.itoa n = s.data.toList → n = v := by
      intro n hn he
      have := parse_itoa n hn
      rw [he, hp] at this
      cases this
      rfl
    cases hq : inB v
    · rw [if_pos (by simp), rdNum_none]
      intro n hn he
      have := uniq n hn he
      subst this
      rw [hq] at hn
      cases hn
    · rw [if_neg (by simp), dec_i2 v hq, Option.bind_some]
      dsimp only
      rw [ByteArray.toList_eq, ByteArray.toList_eq]
      by_cases he : Go.Lib.itoa v = s.data.toList
      · rw [if_neg (by simp [he]), ← he, rdNum_itoa v hq]
      · rw [if_pos (by simp [he]), rdNum_none]
        intro n hn he'
        have := uniq n hn he'
        subst this
        exact he he'
  | «syntax» =>
    dsimp only
    rw [if_pos rfl, none (by simp [hp])]
  | range =>
    dsimp only
    rw [if_pos rfl, none (by simp [hp])]
def S.i_ReadDecimal (x : (ByteArray × Unit)) : (Option ((Int × Bool) × Unit)) := if x.1.size ≤ 1000000 then some (rdNum x.1.data.toList, ()) else none
theorem S.i_ReadDecimal_ok (x : (ByteArray × Unit)) (r : _) (h : S.i_ReadDecimal x = some r) : ∃ k, P.i_ReadDecimal k x = some r := by
  obtain ⟨s, u⟩ := x
  unfold S.i_ReadDecimal at h
  dsimp only at h
  split at h
  case isFalse => cases h
  rename_i hs
  rw [← h]
  exact ⟨0, rdP_eq s hs⟩
theorem rdI_eq (s : ByteArray) (h : s.size ≤ 1000000) : S.i_ReadDecimal (s, ()) = some (rdNum s.data.toList, ()) := by
  unfold S.i_ReadDecimal
  dsimp only
  rw [if_pos h]
def S.strings_Split (x : (ByteArray × (ByteArray × Unit))) : (Option ((List ByteArray) × Unit)) := if 1 ≤ x.2.1.size ∧ x.1.size < 4294967281 then some (Go.Lib.splitB x.2.1 0 (Go.Lib.countB x.1 x.2.1) x.1, ()) else none
def P.i_parted (k : Nat) (x : (ByteArray × Unit)) : (Option ((List ByteArray) × Unit)) :=
 (if (((ByteArray.toList x.1) == (ByteArray.toList (bs [110, 111, 110, 101]))) = true) then (some (([] : List ByteArray) , ()))
 else (Option.bind (S.strings_Split (x.1 , ((bs [44]) , ()))) (fun (y0 : ((List ByteArray) × Unit)) => (some (y0.1 , ())))))
def S.i_parted (x : (ByteArray × Unit)) : (Option ((List ByteArray) × Unit)) := P.i_parted 0 x
theorem S.i_parted_ok (x : (ByteArray × Unit)) (r : _) (h : S.i_parted x = some r) : ∃ k, P.i_parted k x = some r := ⟨0, h⟩
abbrev P.i_ReadList_b1  (x2 : (Int × (Int × ((List ByteArray) × ((List Int) × Unit))))) (g3 : (Int × (Int × ((List ByteArray) × ((List Int) × Unit)))) → Option (((List Int) × Bool) × Unit)) : Option (((List Int) × Bool) × Unit) :=
 (if ((decide (x2.1 < x2.2.1)) = true) then (if ((decide ((0 : Int) ≤ x2.1)) = true) then (if ((decide (x2.1 < (((List.length x2.2.2.1) : Nat) : Int))) = true) then (Option.bind (S.i_ReadDecimal ((List.getD x2.2.2.1 (Int.toNat x2.1) (bs [])) , ())) (fun (y4 : ((Int × Bool) × Unit)) => (if ((!y4.1.2) = true) then (some ((([] : List Int) , false) , ()))
 else (if ((decide ((((List.length x2.2.2.2.1) + (List.length (y4.1.1 :: ([] : List Int)))) * (8 : Nat)) ≤ (140737488355328 : Nat))) = true) then (g3 ((Go.IntKind.wrap Go.IntKind.i64 (x2.1 + (1 : Int))) , (x2.2.1 , (x2.2.2.1 , ((x2.2.2.2.1 ++ (y4.1.1 :: ([] : List Int))) , ())))))
 else none))))
 else none)
 else none)
 else (some ((x2.2.2.2.1 , true) , ())))
def P.i_ReadList (k : Nat) (x : (ByteArray × Unit)) : (Option (((List Int) × Bool) × Unit)) :=
 (Option.bind (S.i_parted (x.1 , ())) (fun (y0 : ((List ByteArray) × Unit)) => (if ((decide ((((List.length y0.1) : Nat) : Int) > (300 : Int))) = true) then (some ((([] : List Int) , false) , ()))
 else (loopP (X := (Int × (Int × ((List ByteArray) × ((List Int) × Unit))))) (R := (((List Int) × Bool) × Unit)) (P.i_ReadList_b1 ) k ((0 : Int) , ((((List.length y0.1) : Nat) : Int) , (y0.1 , (([] : List Int) , ()))))))))
theorem splitK_pieces (c : UInt8) (l : List UInt8) : Go.Lib.splitK [c] 0 (l.count c) l = pieces c l := by
  induction l with
  | nil => rfl
  | cons b r ih =>
    unfold pieces
    by_cases hb : b = c
    · subst hb
      rw [if_pos rfl, List.count_cons_self]
      have hi : Go.Lib.index (b :: r) [b] = 0 := by simp [Go.Lib.index]
      unfold Go.Lib.splitK
      rw [hi, if_neg (by decide), ← ih]
      rfl
    · rw [if_neg hb, List.count_cons_of_ne (fun q => hb q), ← ih]
      have hi : Go.Lib.index (b :: r) [c] = if Go.Lib.index r [c] == -1 then -1 else Go.Lib.index r [c] + 1 := by
        have : ([c].isPrefixOf (b :: r)) = false := by
          simp [List.isPrefixOf]
          exact fun q => hb q.symm
        rw [Go.Lib.index, if_neg (by simp [this])]
      cases hk : r.count c with
      | zero => rfl
      | succ k =>
        unfold Go.Lib.splitK
        rw [hi]
        by_cases hm : Go.Lib.index r [c] = -1
        · simp [hm, glue]
        · have hg := Go.Lib.index_ge r [c]
          have h1 : ¬ (Go.Lib.index r [c] == -1) = true := by simpa using hm
          rw [if_neg h1, if_neg (by simp; omega), if_neg h1]
          have h2 : (Go.Lib.index r [c] + 1).toNat = (Go.Lib.index r [c]).toNat + 1 := by omega
          rw [h2]
          simp only [glue, Nat.add_zero, List.take_succ_cons, List.length_singleton, List.drop_succ_cons]
          rfl
theorem split_pieces (s : ByteArray) : (Go.Lib.splitB (bs [44]) 0 (Go.Lib.countB s (bs [44])) s).map (·.data.toList) = pieces 44 s.data.toList := by
  rw [Go.Lib.splitB_data]
  show Go.Lib.splitK [44] 0 (Go.Lib.count s.data.toList [44]) s.data.toList = _
  rw [Go.Lib.count_one, splitK_pieces]
def S.i_ReadList (x : (ByteArray × Unit)) : (Option (((List Int) × Bool) × Unit)) := if x.1.size ≤ 1000000 then some (rdList x.1.data.toList, ()) else none
theorem readList_loop (ps : List ByteArray) (hl : ps.length ≤ 300) (hp : ∀ p ∈ ps, p.size ≤ 1000000) : loopP (X := (Int × (Int × ((List ByteArray) × ((List Int) × Unit))))) (R := (((List Int) × Bool) × Unit)) P.i_ReadList_b1 400 ((0 : Int), ((ps.length : Int), (ps, (([] : List Int), ())))) = some (rdBs ps, ()) := by
  have key := loop_up0 (k := 400) (b := P.i_ReadList_b1) (n := ps.length) (st := fun i => ((i : Int), (ps.length : Int), ps, (ps.take i).map (fun p => (rdB p).1), ())) (F := fun i => some (if (ps.drop i).all (fun p => (rdB p).2) = true then (ps.map fun p => (rdB p).1, true) else ([], false), ())) (fun i g hi hg => by
    unfold P.i_ReadList_b1
    dsimp only at hg ⊢
    have a1 : (i : Int) < (ps.length : Int) := by omega
    have a2 : (0 : Int) ≤ (i : Int) := by omega
    simp only [a1, a2, decide_true, if_true]
    rw [getD_cast ps i _ hi, List.drop_eq_getElem_cons hi, List.all_cons]
    rw [show S.i_ReadDecimal (ps[i], ()) = some (rdB ps[i], ()) from rdI_eq _ (hp _ (List.getElem_mem hi)), Option.bind_some]
    dsimp only
    cases hq : (rdB ps[i]).2
    · simp
    · rw [if_neg (by simp)]
      have a3 : (((ps.take i).map (fun p => (rdB p).1)).length + ((rdB ps[i]).1 :: ([] : List Int)).length) * 8 ≤ 140737488355328 := by
        simp; omega
      rw [if_pos (decide_eq_true a3), wr (by omega) (by omega)]
      have a4 : (ps.take i).map (fun p => (rdB p).1) ++ [(rdB ps[i]).1] = (ps.take (i + 1)).map (fun p => (rdB p).1) := by
        rw [← List.take_append_getElem hi, List.map_append]
        rfl
      rw [a4, Bool.true_and]
      exact hg) (fun g => by
    unfold P.i_ReadList_b1
    dsimp only
    rw [if_neg (by simp), List.drop_length, List.take_length, List.all_nil, if_pos rfl]) (by omega)
  exact (show _ = _ from key).trans rfl
theorem S.i_ReadList_ok (x : (ByteArray × Unit)) (r : _) (h : S.i_ReadList x = some r) : ∃ k, P.i_ReadList k x = some r := by
  obtain ⟨s, u⟩ := x
  unfold S.i_ReadList at h
  dsimp only at h
  split at h
  case isFalse => cases h
  rename_i hs
  cases h
  refine ⟨400, ?_⟩
  unfold P.i_ReadList rdList S.i_parted P.i_parted
  dsimp only
  have hsz : s.size = s.data.toList.length := by rw [Array.length_toList]; rfl
  by_cases hn : s.data.toList = [110, 111, 110, 101]
  · rw [if_pos ((none_eq s).2 hn), if_pos hn, Option.bind_some]
    exact readList_loop [] (by simp) (by simp)
  · rw [if_neg (fun q => hn ((none_eq s).1 q)), if_neg hn]
    have e0 : S.strings_Split (s, bs [44], ()) = some (Go.Lib.splitB (bs [44]) 0 (Go.Lib.countB s (bs [44])) s, ()) := by
      unfold S.strings_Split
      dsimp only
      rw [if_pos ⟨Nat.le_refl _, by omega⟩]
    have e1 := split_pieces s
    rw [e0, Option.bind_some, Option.bind_some]
    dsimp only
    generalize Go.Lib.splitB (bs [44]) 0 (Go.Lib.countB s (bs [44])) s = ps at e1 ⊢
    have hp : ∀ p ∈ ps, p.size ≤ 1000000 := by
      intro p hp
      have := pieces_len 44 s.data.toList p.data.toList (by rw [← e1]; exact List.mem_map_of_mem hp)
      have hz : p.size = p.data.toList.length := by rw [Array.length_toList]; rfl
      omega
    rw [← e1, rdParts_map]
    by_cases hl : ps.length > 300
    · rw [if_pos (decide_eq_true (by omega)), if_pos hl]
    · rw [if_neg (by simp; omega), if_neg hl]
      exact readList_loop ps (by omega) hp
def P.l_FnExactReadList (k : Nat) (x : (ByteArray × Unit)) : (Option (Bool × Unit)) :=
 (if ((decide ((((ByteArray.size x.1) : Nat) : Int) > (1000000 : Int))) = true) then (some (true , ()))
 else (Option.bind (S.s_ReadList (x.1 , ())) (fun (y0 : (((List Int) × Bool) × Unit)) => (Option.bind (S.i_ReadList (x.1 , ())) (fun (y1 : (((List Int) × Bool) × Unit)) => (Option.bind (S.l_eqInt64S (y1.1.1 , (y0.1.1 , ()))) (fun (y2 : (Bool × Unit)) => (if ((!y2.1) = true) then (some (false , ()))
 else (if ((!(y1.1.2 == y0.1.2)) = true) then (some (false , ()))
 else (Option.bind (S.l_markInt64S (y1.1.1 , ((101 : Int) , ()))) (fun (y3 : (Int × ((List Int) × Unit))) => (Option.bind (S.l_heldInt64S ((splice y1.1.1 y3.2.1 (0 : Nat)) , ((101 : Int) , ()))) (fun (y4 : (Int × Unit)) => (if ((decide (y4.1 < (0 : Int))) = true) then (some (false , ()))
 else (if ((y4.1 != y3.1) = true) then (some (false , ()))
 else (Option.bind (S.i_ReadList (x.1 , ())) (fun (y5 : (((List Int) × Bool) × Unit)) => (Option.bind (S.l_eqInt64S (y5.1.1 , (y0.1.1 , ()))) (fun (y6 : (Bool × Unit)) => (if ((!y6.1) = true) then (some (false , ()))
 else (if ((!(y5.1.2 == y0.1.2)) = true) then (some (false , ()))
 else (Option.bind (S.l_heldInt64S ((splice y1.1.1 y3.2.1 (0 : Nat)) , ((101 : Int) , ()))) (fun (y7 : (Int × Unit)) => (if ((decide (y7.1 < (0 : Int))) = true) then (some (false , ()))
 else (if ((y7.1 != y3.1) = true) then (some (false , ()))
 else (some (true , ())))))))))))))))))))))))))))
def S.l_FnExactReadList (x : (ByteArray × Unit)) : (Option (Bool × Unit)) := P.l_FnExactReadList 0 x
theorem S.l_FnExactReadList_ok (x : (ByteArray × Unit)) (r : _) (h : S.l_FnExactReadList x = some r) : ∃ k, P.l_FnExactReadList k x = some r := ⟨0, h⟩
end Go.Cm
end
