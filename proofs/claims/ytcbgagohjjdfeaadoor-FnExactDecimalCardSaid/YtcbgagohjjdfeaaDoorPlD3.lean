import Derived.Test.YtcbgagohjjdfeaaDoorCmZI
set_option linter.unusedVariables false
set_option maxRecDepth 100000
noncomputable section
namespace Go.Cm
abbrev P.s_l01Dec_b0  (x1 : ((List Int) × (Int × (Int × Unit)))) (g2 : ((List Int) × (Int × (Int × Unit))) → Option (ByteArray × Unit)) : Option (ByteArray × Unit) :=
 (if (((((List.length x1.1) : Nat) : Int) == (0 : Int)) = true) then (if ((decide ((Int.tmod x1.2.1 (10 : Int)) < (0 : Int))) = true) then (if ((decide ((((List.length ((Go.IntKind.wrap Go.IntKind.u8 (Go.IntKind.wrap Go.IntKind.i64 ((48 : Int) + (Go.IntKind.wrap Go.IntKind.i64 ((0 : Int) - (Int.tmod x1.2.1 (10 : Int))))))) :: ([] : List Int))) + (List.length x1.1)) * (1 : Nat)) ≤ (140737488355328 : Nat))) = true) then (g2 ((((Go.IntKind.wrap Go.IntKind.u8 (Go.IntKind.wrap Go.IntKind.i64 ((48 : Int) + (Go.IntKind.wrap Go.IntKind.i64 ((0 : Int) - (Int.tmod x1.2.1 (10 : Int))))))) :: ([] : List Int)) ++ x1.1) , ((Go.IntKind.wrap Go.IntKind.i64 (Int.tdiv x1.2.1 (10 : Int))) , (x1.2.2.1 , ()))))
 else none)
 else (if ((decide ((((List.length ((Go.IntKind.wrap Go.IntKind.u8 (Go.IntKind.wrap Go.IntKind.i64 ((48 : Int) + (Int.tmod x1.2.1 (10 : Int))))) :: ([] : List Int))) + (List.length x1.1)) * (1 : Nat)) ≤ (140737488355328 : Nat))) = true) then (g2 ((((Go.IntKind.wrap Go.IntKind.u8 (Go.IntKind.wrap Go.IntKind.i64 ((48 : Int) + (Int.tmod x1.2.1 (10 : Int))))) :: ([] : List Int)) ++ x1.1) , ((Go.IntKind.wrap Go.IntKind.i64 (Int.tdiv x1.2.1 (10 : Int))) , (x1.2.2.1 , ()))))
 else none))
 else (if ((x1.2.1 != (0 : Int)) = true) then (if ((decide ((Int.tmod x1.2.1 (10 : Int)) < (0 : Int))) = true) then (if ((decide ((((List.length ((Go.IntKind.wrap Go.IntKind.u8 (Go.IntKind.wrap Go.IntKind.i64 ((48 : Int) + (Go.IntKind.wrap Go.IntKind.i64 ((0 : Int) - (Int.tmod x1.2.1 (10 : Int))))))) :: ([] : List Int))) + (List.length x1.1)) * (1 : Nat)) ≤ (140737488355328 : Nat))) = true) then (g2 ((((Go.IntKind.wrap Go.IntKind.u8 (Go.IntKind.wrap Go.IntKind.i64 ((48 : Int) + (Go.IntKind.wrap Go.IntKind.i64 ((0 : Int) - (Int.tmod x1.2.1 (10 : Int))))))) :: ([] : List Int)) ++ x1.1) , ((Go.IntKind.wrap Go.IntKind.i64 (Int.tdiv x1.2.1 (10 : Int))) , (x1.2.2.1 , ()))))
 else none)
 else (if ((decide ((((List.length ((Go.IntKind.wrap Go.IntKind.u8 (Go.IntKind.wrap Go.IntKind.i64 ((48 : Int) + (Int.tmod x1.2.1 (10 : Int))))) :: ([] : List Int))) + (List.length x1.1)) * (1 : Nat)) ≤ (140737488355328 : Nat))) = true) then (g2 ((((Go.IntKind.wrap Go.IntKind.u8 (Go.IntKind.wrap Go.IntKind.i64 ((48 : Int) + (Int.tmod x1.2.1 (10 : Int))))) :: ([] : List Int)) ++ x1.1) , ((Go.IntKind.wrap Go.IntKind.i64 (Int.tdiv x1.2.1 (10 : Int))) , (x1.2.2.1 , ()))))
 else none))
 else (if ((decide (x1.2.2.1 < (0 : Int))) = true) then (if ((decide ((((1 : Nat) + (List.length x1.1)) * (1 : Nat)) ≤ (140737488355328 : Nat))) = true) then (some ((strOf (((45 : Int) :: ([] : List Int)) ++ x1.1)) , ()))
 else none)
 else (some ((strOf x1.1) , ())))))
def P.s_l01Dec (k : Nat) (x : (Int × Unit)) : (Option (ByteArray × Unit)) :=
 (loopP (X := ((List Int) × (Int × (Int × Unit)))) (R := (ByteArray × Unit)) (P.s_l01Dec_b0 ) k (([] : List Int) , (x.1 , (x.1 , ()))))
/-- A number's digits, as Go's bytes. -/
def digI (u : Nat) : List Int := (Go.Lib.decDigits u).map fun b => (b.toNat : Int)
theorem digI_small {u : Nat} (h : u < 10) : digI u = [48 + (u : Int)] := by
  unfold digI
  rw [Go.Lib.decDigits, dif_pos h]
  simp only [List.map_cons, List.map_nil, List.cons.injEq, and_true]
  rw [UInt8.toNat_ofNat']
  omega
theorem digI_step {u : Nat} (h : ¬ u < 10) : digI u = digI (u / 10) ++ [48 + ((u % 10 : Nat) : Int)] := by
  unfold digI
  rw [Go.Lib.decDigits, dif_neg h, List.map_append]
  simp only [List.map_cons, List.map_nil]
  rw [UInt8.toNat_ofNat']
  congr 2
  omega
theorem digI_len (u : Nat) : (digI u).length ≤ u + 1 := by
  induction u using Nat.strongRecOn with
  | ind u ih =>
    by_cases h : u < 10
    · rw [digI_small h]; simp
    · rw [digI_step h, List.length_append]
      have := ih (u / 10) (by omega)
      simp
      omega
theorem strOf_map (l : List UInt8) : strOf (l.map fun b => (b.toNat : Int)) = ⟨l.toArray⟩ := by
  unfold strOf
  rw [List.map_map]
  have : ((fun n : Int => UInt8.ofNat n.toNat) ∘ fun b : UInt8 => (b.toNat : Int)) = id := by
    funext b
    simp
  rw [this, List.map_id]
theorem wr8 {x : Int} (h0 : 0 ≤ x) (h1 : x ≤ 255) : Go.IntKind.wrap Go.IntKind.u8 x = x := by
  show x % 256 = x
  omega
def sgn (neg : Bool) (u : Nat) : Int := if neg = true then -(u : Int) else (u : Int)
theorem sgn_tmod (neg : Bool) (u : Nat) : Int.tmod (sgn neg u) 10 = sgn neg (u % 10) := by
  cases neg
  · show Int.tmod (u : Int) 10 = ((u % 10 : Nat) : Int)
    rw [Int.tmod_eq_emod_of_nonneg (by omega)]
    omega
  · show Int.tmod (-(u : Int)) 10 = -((u % 10 : Nat) : Int)
    rw [Int.neg_tmod, Int.tmod_eq_emod_of_nonneg (by omega)]
    omega
theorem sgn_tdiv (neg : Bool) (u : Nat) : Int.tdiv (sgn neg u) 10 = sgn neg (u / 10) := by
  cases neg
  · show Int.tdiv (u : Int) 10 = ((u / 10 : Nat) : Int)
    rw [Int.tdiv_eq_ediv_of_nonneg (by omega)]
    omega
  · show Int.tdiv (-(u : Int)) 10 = -((u / 10 : Nat) : Int)
    rw [Int.neg_tdiv, Int.tdiv_eq_ediv_of_nonneg (by omega)]
    omega
/-- One round writes one digit. -/
theorem dec_round (neg : Bool) (u : Nat) (n : Int) (out : List Int) (g : ((List Int) × (Int × (Int × Unit))) → Option (ByteArray × Unit)) (hu : u ≤ 9223372036854775808) (hs : neg = false → u ≤ 9223372036854775807) (ho : out.length ≤ 1000) (hc : out = [] ∨ u ≠ 0) :
    P.s_l01Dec_b0 (out, sgn neg u, n, ()) g = g ((48 + ((u % 10 : Nat) : Int)) :: out, sgn neg (u / 10), n, ()) := by
  have hw : Go.IntKind.wrap Go.IntKind.i64 (sgn neg (u / 10)) = sgn neg (u / 10) := by
    apply wr <;> unfold sgn <;> split <;> omega
  have hA : ∀ (a b : Option (ByteArray × Unit)), (if ((decide (sgn neg (u % 10) < (0 : Int))) = true) then a else b) = (if (sgn neg (u % 10) < 0) then a else b) := by
    intro a b
    by_cases h : sgn neg (u % 10) < 0 <;> simp [h]
  have hneg : sgn neg (u % 10) < 0 → Go.IntKind.wrap Go.IntKind.i64 ((0 : Int) - sgn neg (u % 10)) = ((u % 10 : Nat) : Int) := by
    intro h
    unfold sgn at h ⊢
    split at h
    · rename_i hn
      rw [if_pos hn, wr (by omega) (by omega)]
      omega
    · omega
  have hpos : ¬ sgn neg (u % 10) < 0 → sgn neg (u % 10) = ((u % 10 : Nat) : Int) := by
    intro h
    unfold sgn at h ⊢
    split at h
    · rename_i hn
      rw [if_pos hn]
      omega
    · rename_i hn
      rw [if_neg hn]
  have hch : Go.IntKind.wrap Go.IntKind.u8 (Go.IntKind.wrap Go.IntKind.i64 ((48 : Int) + ((u % 10 : Nat) : Int))) = 48 + ((u % 10 : Nat) : Int) := by
    rw [wr (by omega) (by omega), wr8 (by omega) (by omega)]
  have hlen : ∀ c : Int, ((List.length (c :: ([] : List Int)) + List.length out) * 1 ≤ 140737488355328) := by
    intro c
    simp
    omega
  unfold P.s_l01Dec_b0
  dsimp only
  have hu0 : u ≠ 0 → sgn neg u ≠ 0 := by
    intro h
    unfold sgn
    split <;> omega
  simp only [hA, sgn_tmod, sgn_tdiv, hw]
  have hin : ∀ X Y : Option (ByteArray × Unit), (sgn neg (u % 10) < 0 → X = g ((48 + ((u % 10 : Nat) : Int)) :: out, sgn neg (u / 10), n, ())) → (¬ sgn neg (u % 10) < 0 → Y = g ((48 + ((u % 10 : Nat) : Int)) :: out, sgn neg (u / 10), n, ())) →
      (if sgn neg (u % 10) < 0 then X else Y) = g ((48 + ((u % 10 : Nat) : Int)) :: out, sgn neg (u / 10), n, ()) := by
    intro X Y h1 h2
    split
    · exact h1 (by assumption)
    · exact h2 (by assumption)
  have key : (if sgn neg (u % 10) < 0 then (if ((decide (((List.length ((Go.IntKind.wrap Go.IntKind.u8 (Go.IntKind.wrap Go.IntKind.i64 ((48 : Int) + (Go.IntKind.wrap Go.IntKind.i64 ((0 : Int) - sgn neg (u % 10)))))) :: ([] : List Int)) + (List.length out)) * (1 : Nat)) ≤ (140737488355328 : Nat))) = true) then (g ((((Go.IntKind.wrap Go.IntKind.u8 (Go.IntKind.wrap Go.IntKind.i64 ((48 : Int) + (Go.IntKind.wrap Go.IntKind.i64 ((0 : Int) - sgn neg (u % 10)))))) :: ([] : List Int)) ++ out) , (sgn neg (u / 10) , (n , ())))) else none)
      else (if ((decide (((List.length ((Go.IntKind.wrap Go.IntKind.u8 (Go.IntKind.wrap Go.IntKind.i64 ((48 : Int) + sgn neg (u % 10)))) :: ([] : List Int)) + (List.length out)) * (1 : Nat)) ≤ (140737488355328 : Nat))) = true) then (g ((((Go.IntKind.wrap Go.IntKind.u8 (Go.IntKind.wrap Go.IntKind.i64 ((48 : Int) + sgn neg (u % 10)))) :: ([] : List Int)) ++ out) , (sgn neg (u / 10) , (n , ())))) else none)) = g ((48 + ((u % 10 : Nat) : Int)) :: out, sgn neg (u / 10), n, ()) := by
    refine hin _ _ (fun h => ?_) (fun h => ?_)
    · rw [if_pos (decide_eq_true (hlen _)), hneg h, hch]
      rfl
    · rw [if_pos (decide_eq_true (hlen _)), hpos h, hch]
      rfl
  rcases hc with rfl | hc
  · rw [if_pos (by rfl)]
    exact key
  · by_cases ho' : ((((List.length out) : Nat) : Int) == (0 : Int)) = true
    · rw [if_pos ho']
      exact key
    · rw [if_neg ho', if_pos (by simpa using hu0 hc)]
      exact key
theorem dec_end (neg : Bool) (n : Int) (out : List Int) (g : ((List Int) × (Int × (Int × Unit))) → Option (ByteArray × Unit)) (ho : out.length ≤ 1000) (hc : out ≠ []) :
    P.s_l01Dec_b0 (out, sgn neg 0, n, ()) g = some (strOf (if n < 0 then 45 :: out else out), ()) := by
  unfold P.s_l01Dec_b0
  dsimp only
  have h0 : sgn neg 0 = 0 := by cases neg <;> rfl
  rw [if_neg (by simpa using hc), h0, if_neg (by decide)]
  by_cases hn : n < 0
  · rw [if_pos (decide_eq_true hn), if_pos (decide_eq_true (by omega)), if_pos hn]
    rfl
  · rw [if_neg (by simpa using hn), if_neg hn]
theorem dec_loop (neg : Bool) (n : Int) : ∀ (u : Nat) (out : List Int) (k : Nat), u ≠ 0 → u ≤ 9223372036854775808 → (neg = false → u ≤ 9223372036854775807) → out.length + u.log2 ≤ 900 → u.log2 + 2 ≤ k →
    loopP P.s_l01Dec_b0 k (out, sgn neg u, n, ()) = some (strOf (if n < 0 then 45 :: (digI u ++ out) else digI u ++ out), ()) := by
  intro u
  induction u using Nat.strongRecOn with
  | ind u ih =>
    intro out k h0 hu hs ho hk
    obtain ⟨k, rfl⟩ : ∃ j, k = j + 1 := ⟨k - 1, by omega⟩
    rw [loopP_succ, dec_round neg u n out _ hu hs (by omega) (.inr h0)]
    by_cases h : u < 10
    · have e : u / 10 = 0 := by omega
      obtain ⟨k, rfl⟩ : ∃ j, k = j + 1 := ⟨k - 1, by omega⟩
      rw [e, loopP_succ, dec_end neg n _ _ (by simp; omega) (by simp), digI_small h, Nat.mod_eq_of_lt h]
      rfl
    · have hl : (u / 10).log2 + 1 ≤ u.log2 := by
        have h2 : u / 10 ≠ 0 := by omega
        have a1 : 2 ^ (u / 10).log2 ≤ u / 10 := Nat.log2_self_le h2
        have a2 : 2 ^ ((u / 10).log2 + 1) ≤ u := by rw [Nat.pow_succ]; omega
        exact (Nat.le_log2 h0).2 a2
      rw [ih (u / 10) (by omega) _ k (by omega) (by omega) (fun hn => by have := hs hn; omega) (by simp; omega) (by omega), digI_step h]
      simp
def S.s_l01Dec (x : (Int × Unit)) : (Option (ByteArray × Unit)) := if -9223372036854775808 ≤ x.1 ∧ x.1 ≤ 9223372036854775807 then some (⟨(Go.Lib.itoa x.1).toArray⟩, ()) else none
theorem S.s_l01Dec_ok (x : (Int × Unit)) (r : _) (h : S.s_l01Dec x = some r) : ∃ k, P.s_l01Dec k x = some r := by
  obtain ⟨n, u⟩ := x
  unfold S.s_l01Dec at h
  dsimp only at h
  split at h
  case isFalse => cases h
  rename_i hn
  cases h
  refine ⟨200, ?_⟩
  unfold P.s_l01Dec
  dsimp only
  have hsg : ∃ neg, n = sgn neg n.natAbs ∧ (neg = true ↔ n < 0) := by
    by_cases h : n < 0
    · exact ⟨true, by unfold sgn; simp; omega, by simp [h]⟩
    · exact ⟨false, by unfold sgn; simp; omega, by simp [h]⟩
  obtain ⟨neg, h1, h2⟩ := hsg
  have hfin : strOf (if n < 0 then 45 :: digI n.natAbs else digI n.natAbs) = ⟨(Go.Lib.itoa n).toArray⟩ := by
    unfold Go.Lib.itoa digI
    split
    · rw [← strOf_map]
      rfl
    · rw [← strOf_map]
      have : n.natAbs = n.toNat := by omega
      rw [this]
  by_cases h0 : n.natAbs = 0
  · have hn0 : n = 0 := by omega
    subst hn0
    have e0 : (0 : Int) = sgn false 0 := rfl
    show loopP P.s_l01Dec_b0 (198 + 1 + 1) ([], 0, 0, ()) = _
    rw [loopP_succ]
    conv => lhs; rw [show (([] : List Int), (0 : Int), (0 : Int), ()) = ([], sgn false 0, 0, ()) from rfl]
    rw [dec_round false 0 0 [] _ (by omega) (by omega) (by simp) (.inl rfl), loopP_succ, show 0 / 10 = 0 from rfl, dec_end false 0 _ _ (by simp) (by simp), ← hfin]
    rw [show (0 : Int).natAbs = 0 from rfl, digI_small (by omega)]
  · have hb : n.natAbs ≤ 9223372036854775808 := by omega
    have hl : n.natAbs.log2 ≤ 64 := by
      have : n.natAbs.log2 < 65 := (Nat.log2_lt h0).2 (by omega)
      omega
    have := dec_loop neg n n.natAbs [] 200 h0 hb (fun hf => by
      have : ¬ n < 0 := fun h => by rw [h2.2 h] at hf; cases hf
      omega) (by simp; omega) (by omega)
    rw [← h1] at this
    rw [this, List.append_nil, hfin]
def P.s_Decimal (k : Nat) (x : (Int × Unit)) : (Option (ByteArray × Unit)) :=
 (Option.bind (S.s_l01Dec (x.1 , ())) (fun (y0 : (ByteArray × Unit)) => (some (y0.1 , ()))))
def S.s_Decimal (x : (Int × Unit)) : (Option (ByteArray × Unit)) := P.s_Decimal 0 x
theorem S.s_Decimal_ok (x : (Int × Unit)) (r : _) (h : S.s_Decimal x = some r) : ∃ k, P.s_Decimal k x = some r := ⟨0, h⟩
def S.strconv_FormatInt (x : (Int × (Int × Unit))) : (Option (ByteArray × Unit)) := if x.2.1 = 10 ∧ -9223372036854775808 ≤ x.1 ∧ x.1 ≤ 9223372036854775807 then some (⟨(Go.Lib.itoa x.1).toArray⟩, ()) else none
def P.i_Decimal (k : Nat) (x : (Int × Unit)) : (Option (ByteArray × Unit)) :=
 (Option.bind (S.strconv_FormatInt (x.1 , ((10 : Int) , ()))) (fun (y0 : (ByteArray × Unit)) => (some (y0.1 , ()))))
def S.i_Decimal (x : (Int × Unit)) : (Option (ByteArray × Unit)) := P.i_Decimal 0 x
theorem S.i_Decimal_ok (x : (Int × Unit)) (r : _) (h : S.i_Decimal x = some r) : ∃ k, P.i_Decimal k x = some r := ⟨0, h⟩
def P.l_FnExactDecimal (k : Nat) (x : (Int × Unit)) : (Option (Bool × Unit)) :=
 (Option.bind (S.s_Decimal (x.1 , ())) (fun (y0 : (ByteArray × Unit)) => (Option.bind (S.i_Decimal (x.1 , ())) (fun (y1 : (ByteArray × Unit)) => (if ((!((ByteArray.toList y1.1) == (ByteArray.toList y0.1))) = true) then (some (false , ()))
 else (some (true , ())))))))
def S.l_FnExactDecimal (x : (Int × Unit)) : (Option (Bool × Unit)) := P.l_FnExactDecimal 0 x
theorem S.l_FnExactDecimal_ok (x : (Int × Unit)) (r : _) (h : S.l_FnExactDecimal x = some r) : ∃ k, P.l_FnExactDecimal k x = some r := ⟨0, h⟩
end Go.Cm
end
