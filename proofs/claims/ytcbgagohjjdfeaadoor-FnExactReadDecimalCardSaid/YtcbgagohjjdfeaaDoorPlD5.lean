import Derived.Test.YtcbgagohjjdfeaaDoorCmZI
import Derived.Lib.ParseIntB
set_option linter.unusedVariables false
set_option maxRecDepth 100000
noncomputable section
namespace Go.Cm
def P.s_l00In (k : Nat) (x : (Int × (Int × (Int × Unit)))) : (Option (Bool × Unit)) :=
 (if ((decide (x.1 ≥ x.2.1)) = true) then (some ((decide (x.1 ≤ x.2.2.1)) , ()))
 else (some (false , ())))
def S.s_l00In (x : (Int × (Int × (Int × Unit)))) : (Option (Bool × Unit)) := P.s_l00In 0 x
theorem S.s_l00In_ok (x : (Int × (Int × (Int × Unit)))) (r : _) (h : S.s_l00In x = some r) : ∃ k, P.s_l00In k x = some r := ⟨0, h⟩
/-- A number that is not too great. -/
def inB (n : Int) : Bool := decide (-1000000000 ≤ n ∧ n ≤ 1000000000)
theorem inB_iff (n : Int) : inB n = true ↔ -1000000000 ≤ n ∧ n ≤ 1000000000 := by simp [inB]
theorem in_s (n : Int) : S.s_l00In (n, -1000000000, 1000000000, ()) = some (inB n, ()) := by
  unfold S.s_l00In P.s_l00In inB
  dsimp only
  by_cases h : n ≥ -1000000000
  · rw [if_pos (by simpa using h)]
    have : -1000000000 ≤ n := h
    simp [this]
  · rw [if_neg (by simpa using h)]
    have : ¬ -1000000000 ≤ n := h
    simp [this]
abbrev P.s_l01Dec_b0  (x1 : ((List Int) × (Int × (Int × Unit)))) (g2 : ((List Int) × (Int × (Int × Unit))) → Option (ByteArray × Unit)) : Option (ByteArray × Unit) :=
 (if (((((List.length x1.1) : Nat) : Int) == (0 : Int)) = true) then (if ((decide ((Int.tmod x1.2.1 (10 : Int)) < (0 : Int))) = true) then (if ((decide ((((List.length ((Go.IntKind.wrap Go.IntKind.u8 (Go.IntKind.wrap Go.IntKind.i64 ((48 : Int) + (Go.IntKind.wrap Go.IntKind.i64 ((0 : Int) - (Int.tmod x1.2.1 (10 : Int))))))) :: ([] : List Int))) + (List.length x1.1)) * (1 : Nat)) ≤ (140737488355328 : Nat))) = true) then (g2 ((((Go.IntKind.wrap Go.IntKind.u8 (Go.IntKind.wrap Go.IntKind.i64 ((48 : Int) + (Go.IntKind.wrap Go.IntKind.i64 ((0 : Int) - (Int.tmod x1.2.1 (10 : Int))))))) :: ([] : List Int)) ++ x1.1) , ((Go.IntKind.wrap Go.IntKind.i64 (Int.tdiv x1.2.1 (10 : Int))) , (x1.2.2.1 , ()))))
 else none)
 else (if ((decide ((((List.length ((Go.IntKind.wrap Go.IntKind.u8 (Go.IntKind.wrap Go.IntKind.i64 ((48 : Int) + (Int.tmod x1.2.1 (10 : Int))))) :: ([] : List Int))) + (List.length x1.1)) * (1 : Nat)) ≤ (140737488355328 : Nat))) = true) then (g2 ((((Go.IntKind.wrap Go.IntKind.u8 (Go.IntKind.wrap Go.IntKind.i64 ((48 : Int) + (Int.tmod x1.2.1 (10 : Int))))) :: ([] : List Int)) ++ x1.1) , ((Go.IntKind.wrap Go.IntKind.i64 (Int.tdiv x1.2.1 (10 : Int))) , (x1.2.2.1 , ()))))
 else none))
 else (if ((x1.2.1 != (0 : Int)) = true) then (if ((decide ((Int.tmod x1.2.1 (10 : Int)) < (0 : Int))) = true) then (if ((decide ((((List.length ((Go.IntKind.wrap Go.IntKind.u8 (Go.IntKind.wrap Go.IntKind.i64 ((48 : Int) + (Go.IntKind.wrap Go.IntKind.i64 ((0 : Int) - (Int.tmod x1.2.1 (10 : Int))))))) :: ([] : List Int))) + (List.length x1.1)) * (1 : Nat)) ≤ (140737488355328 : Nat))) = true) then (g2 ((((Go.IntKind.wrap Go.IntKind.u8 (Go.IntKind.wrap Go.IntKind.i64 ((48 : Int) + (Go.IntKind.wrap Go.IntKind.i64 ((0 : Int) - (Int.tmod x1.2.1 (10 : Int))))))) :: ([] : List Int)) ++ x1.1) , ((Go.IntKind.wrap Go.IntKind.i64 (Int.tdiv x1.2.1 (10 : Int))) , (x1.2.2.1 , ()))))
 else none)
 else (if ((decide ((((List.length ((Go.IntKind.wrap Go.IntKind.u8 (Go.IntKind.wrap Go.IntKind.i64 ((48 : Int) + (Int.tmod x1.2.1 (10 : Int))))) :: ([] : List Int))) + (List.length x1.1)) * (1 : Nat)) ≤ (140737488355328 : Nat))) = true) then (g2 ((((Go.IntKind.wrap Go.IntKind.u8 (Go.IntKind.wrap Go.IntKind.i64 ((48 : Int) + (Int.tmod x1.2.1 (10 : Int))))) :: ([] : List Int)) ++ x1.1) , ((Go.IntKind.wrap Go.IntKind.i64 (Int.tdiv x1.2.1 (10 : Int))) , (x1.2.2.1 , ()))))
 else none))
 else (if ((decide (x1.2.2.1 < (0 : Int))) = true) then (if ((decide ((((1 : Nat) + (List.length x1.1)) * (1 : Nat)) ≤ (140737488355328 : Nat))) = true) then (some ((strOf (((45 : Int) :: ([] : List Int)) ++ x1.1)) , ()))
 else none)
 else (some ((strOf x1.1) , ())))))
def P.s_l01Dec (k : Nat) (x : (Int × Unit)) : (Option (ByteArray × Unit)) :=
 (loopP (X := ((List Int) × (Int × (Int × Unit)))) (R := (ByteArray × Unit)) (P.s_l01Dec_b0 ) k (([] : List Int) , (x.1 , (x.1 , ()))))
/-- A number's digits, as Go's bytes. -/
def digI (u : Nat) : List Int := (Go.Lib.decDigits u).map fun b => (b.toNat : Int)
theorem digI_small {u : Nat} (h : u < 10) : digI u = [48 + (u : Int)] := by
  unfold digI
  rw [Go.Lib.decDigits, dif_pos h]
  simp only [List.map_cons, List.map_nil, List.cons.injEq, and_true]
  rw [UInt8.toNat_ofNat']
  omega
theorem digI_step {u : Nat} (h : ¬ u < 10) : digI u = digI (u / 10) ++ [48 + ((u % 10 : Nat) : Int)] := by
  unfold digI
  rw [Go.Lib.decDigits, dif_neg h, List.map_append]
  simp only [List.map_cons, List.map_nil]
  rw [UInt8.toNat_ofNat']
  congr 2
  omega
theorem digI_len (u : Nat) : (digI u).length ≤ u + 1 := by
  induction u using Nat.strongRecOn with
  | ind u ih =>
    by_cases h : u < 10
    · rw [digI_small h]; simp
    · rw [digI_step h, List.length_append]
      have := ih (u / 10) (by omega)
      simp
      omega
theorem strOf_map (l : List UInt8) : strOf (l.map fun b => (b.toNat : Int)) = ⟨l.toArray⟩ := by
  unfold strOf
  rw [List.map_map]
  have : ((fun n : Int => UInt8.ofNat n.toNat) ∘ fun b : UInt8 => (b.toNat : Int)) = id := by
    funext b
    simp
  rw [this, List.map_id]
theorem wr8 {x : Int} (h0 : 0 ≤ x) (h1 : x ≤ 255) : Go.IntKind.wrap Go.IntKind.u8 x = x := by
  show x % 256 = x
  omega
def sgn (neg : Bool) (u : Nat) : Int := if neg = true then -(u : Int) else (u : Int)
theorem sgn_tmod (neg : Bool) (u : Nat) : Int.tmod (sgn neg u) 10 = sgn neg (u % 10) := by
  cases neg
  · show Int.tmod (u : Int) 10 = ((u % 10 : Nat) : Int)
    rw [Int.tmod_eq_emod_of_nonneg (by omega)]
    omega
  · show Int.tmod (-(u : Int)) 10 = -((u % 10 : Nat) : Int)
    rw [Int.neg_tmod, Int.tmod_eq_emod_of_nonneg (by omega)]
    omega
theorem sgn_tdiv (neg : Bool) (u : Nat) : Int.tdiv (sgn neg u) 10 = sgn neg (u / 10) := by
  cases neg
  · show Int.tdiv (u : Int) 10 = ((u / 10 : Nat) : Int)
    rw [Int.tdiv_eq_ediv_of_nonneg (by omega)]
    omega
  · show Int.tdiv (-(u : Int)) 10 = -((u / 10 : Nat) : Int)
    rw [Int.neg_tdiv, Int.tdiv_eq_ediv_of_nonneg (by omega)]
    omega
/-- One round writes one digit. -/
theorem dec_round (neg : Bool) (u : Nat) (n : Int) (out : List Int) (g : ((List Int) × (Int × (Int × Unit))) → Option (ByteArray × Unit)) (hu : u ≤ 9223372036854775808) (hs : neg = false → u ≤ 9223372036854775807) (ho : out.length ≤ 1000) (hc : out = [] ∨ u ≠ 0) :
    P.s_l01Dec_b0 (out, sgn neg u, n, ()) g = g ((48 + ((u % 10 : Nat) : Int)) :: out, sgn neg (u / 10), n, ()) := by
  have hw : Go.IntKind.wrap Go.IntKind.i64 (sgn neg (u / 10)) = sgn neg (u / 10) := by
    apply wr <;> unfold sgn <;> split <;> omega
  have hA : ∀ (a b : Option (ByteArray × Unit)), (if ((decide (sgn neg (u % 10) < (0 : Int))) = true) then a else b) = (if (sgn neg (u % 10) < 0) then a else b) := by
    intro a b
    by_cases h : sgn neg (u % 10) < 0 <;> simp [h]
  have hneg : sgn neg (u % 10) < 0 → Go.IntKind.wrap Go.IntKind.i64 ((0 : Int) - sgn neg (u % 10)) = ((u % 10 : Nat) : Int) := by
    intro h
    unfold sgn at h ⊢
    split at h
    · rename_i hn
      rw [if_pos hn, wr (by omega) (by omega)]
      omega
    · omega
  have hpos : ¬ sgn neg (u % 10) < 0 → sgn neg (u % 10) = ((u % 10 : Nat) : Int) := by
    intro h
    unfold sgn at h ⊢
    split at h
    · rename_i hn
      rw [if_pos hn]
      omega
    · rename_i hn
      rw [if_neg hn]
  have hch : Go.IntKind.wrap Go.IntKind.u8 (Go.IntKind.wrap Go.IntKind.i64 ((48 : Int) + ((u % 10 : Nat) : Int))) = 48 + ((u % 10 : Nat) : Int) := by
    rw [wr (by omega) (by omega), wr8 (by omega) (by omega)]
  have hlen : ∀ c : Int, ((List.length (c :: ([] : List Int)) + List.length out) * 1 ≤ 140737488355328) := by
    intro c
    simp
    omega
  unfold P.s_l01Dec_b0
  dsimp only
  have hu0 : u ≠ 0 → sgn neg u ≠ 0 := by
    intro h
    unfold sgn
    split <;> omega
  simp only [hA, sgn_tmod, sgn_tdiv, hw]
  have hin : ∀ X Y : Option (ByteArray × Unit), (sgn neg (u % 10) < 0 → X = g ((48 + ((u % 10 : Nat) : Int)) :: out, sgn neg (u / 10), n, ())) → (¬ sgn neg (u % 10) < 0 → Y = g ((48 + ((u % 10 : Nat) : Int)) :: out, sgn neg (u / 10), n, ())) →
      (if sgn neg (u % 10) < 0 then X else Y) = g ((48 + ((u % 10 : Nat) : Int)) :: out, sgn neg (u / 10), n, ()) := by
    intro X Y h1 h2
    split
    · exact h1 (by assumption)
    · exact h2 (by assumption)
  have key : (if sgn neg (u % 10) < 0 then (if ((decide (((List.length ((Go.IntKind.wrap Go.IntKind.u8 (Go.IntKind.wrap Go.IntKind.i64 ((48 : Int) + (Go.IntKind.wrap Go.IntKind.i64 ((0 : Int) - sgn neg (u % 10)))))) :: ([] : List Int)) + (List.length out)) * (1 : Nat)) ≤ (140737488355328 : Nat))) = true) then (g ((((Go.IntKind.wrap Go.IntKind.u8 (Go.IntKind.wrap Go.IntKind.i64 ((48 : Int) + (Go.IntKind.wrap Go.IntKind.i64 ((0 : Int) - sgn neg (u % 10)))))) :: ([] : List Int)) ++ out) , (sgn neg (u / 10) , (n , ())))) else none)
      else (if ((decide (((List.length ((Go.IntKind.wrap Go.IntKind.u8 (Go.IntKind.wrap Go.IntKind.i64 ((48 : Int) + sgn neg (u % 10)))) :: ([] : List Int)) + (List.length out)) * (1 : Nat)) ≤ (140737488355328 : Nat))) = true) then (g ((((Go.IntKind.wrap Go.IntKind.u8 (Go.IntKind.wrap Go.IntKind.i64 ((48 : Int) + sgn neg (u % 10)))) :: ([] : List Int)) ++ out) , (sgn neg (u / 10) , (n , ())))) else none)) = g ((48 + ((u % 10 : Nat) : Int)) :: out, sgn neg (u / 10), n, ()) := by
    refine hin _ _ (fun h => ?_) (fun h => ?_)
    · rw [if_pos (decide_eq_true (hlen _)), hneg h, hch]
      rfl
    · rw [if_pos (decide_eq_true (hlen _)), hpos h, hch]
      rfl
  rcases hc with rfl | hc
  · rw [if_pos (by rfl)]
    exact key
  · by_cases ho' : ((((List.length out) : Nat) : Int) == (0 : Int)) = true
    · rw [if_pos ho']
      exact key
    · rw [if_neg ho', if_pos (by simpa using hu0 hc)]
      exact key
theorem dec_end (neg : Bool) (n : Int) (out : List Int) (g : ((List Int) × (Int × (Int × Unit))) → Option (ByteArray × Unit)) (ho : out.length ≤ 1000) (hc : out ≠ []) :
    P.s_l01Dec_b0 (out, sgn neg 0, n, ()) g = some (strOf (if n < 0 then 45 :: out else out), ()) := by
  unfold P.s_l01Dec_b0
  dsimp only
  have h0 : sgn neg 0 = 0 := by cases neg <;> rfl
  rw [if_neg (by simpa using hc), h0, if_neg (by decide)]
  by_cases hn : n < 0
  · rw [if_pos (decide_eq_true hn), if_pos (decide_eq_true (by omega)), if_pos hn]
    rfl
  · rw [if_neg (by simpa using hn), if_neg hn]
theorem dec_loop (neg : Bool) (n : Int) : ∀ (u : Nat) (out : List Int) (k : Nat), u ≠ 0 → u ≤ 9223372036854775808 → (neg = false → u ≤ 9223372036854775807) → out.length + u.log2 ≤ 900 → u.log2 + 2 ≤ k →
    loopP P.s_l01Dec_b0 k (out, sgn neg u, n, ()) = some (strOf (if n < 0 then 45 :: (digI u ++ out) else digI u ++ out), ()) := by
  intro u
  induction u using Nat.strongRecOn with
  | ind u ih =>
    intro out k h0 hu hs ho hk
    obtain ⟨k, rfl⟩ : ∃ j, k = j + 1 := ⟨k - 1, by omega⟩
    rw [loopP_succ, dec_round neg u n out _ hu hs (by omega) (.inr h0)]
    by_cases h : u < 10
    · have e : u / 10 = 0 := by omega
      obtain ⟨k, rfl⟩ : ∃ j, k = j + 1 := ⟨k - 1, by omega⟩
      rw [e, loopP_succ, dec_end neg n _ _ (by simp; omega) (by simp), digI_small h, Nat.mod_eq_of_lt h]
      rfl
    · have hl : (u / 10).log2 + 1 ≤ u.log2 := by
        have h2 : u / 10 ≠ 0 := by omega
        have a1 : 2 ^ (u / 10).log2 ≤ u / 10 := Nat.log2_self_le h2
        have a2 : 2 ^ ((u / 10).log2 + 1) ≤ u := by rw [Nat.pow_succ]; omega
        exact (Nat.le_log2 h0).2 a2
      rw [ih (u / 10) (by omega) _ k (by omega) (by omega) (fun hn => by have := hs hn; omega) (by simp; omega) (by omega), digI_step h]
      simp
def S.s_l01Dec (x : (Int × Unit)) : (Option (ByteArray × Unit)) := if -9223372036854775808 ≤ x.1 ∧ x.1 ≤ 9223372036854775807 then some (⟨(Go.Lib.itoa x.1).toArray⟩, ()) else none
theorem S.s_l01Dec_ok (x : (Int × Unit)) (r : _) (h : S.s_l01Dec x = some r) : ∃ k, P.s_l01Dec k x = some r := by
  obtain ⟨n, u⟩ := x
  unfold S.s_l01Dec at h
  dsimp only at h
  split at h
  case isFalse => cases h
  rename_i hn
  cases h
  refine ⟨200, ?_⟩
  unfold P.s_l01Dec
  dsimp only
  have hsg : ∃ neg, n = sgn neg n.natAbs ∧ (neg = true ↔ n < 0) := by
    by_cases h : n < 0
    · exact ⟨true, by unfold sgn; simp; omega, by simp [h]⟩
    · exact ⟨false, by unfold sgn; simp; omega, by simp [h]⟩
  obtain ⟨neg, h1, h2⟩ := hsg
  have hfin : strOf (if n < 0 then 45 :: digI n.natAbs else digI n.natAbs) = ⟨(Go.Lib.itoa n).toArray⟩ := by
    unfold Go.Lib.itoa digI
    split
    · rw [← strOf_map]
      rfl
    · rw [← strOf_map]
      have : n.natAbs = n.toNat := by omega
      rw [this]
  by_cases h0 : n.natAbs = 0
  · have hn0 : n = 0 := by omega
    subst hn0
    have e0 : (0 : Int) = sgn false 0 := rfl
    show loopP P.s_l01Dec_b0 (198 + 1 + 1) ([], 0, 0, ()) = _
    rw [loopP_succ]
    conv => lhs; rw [show (([] : List Int), (0 : Int), (0 : Int), ()) = ([], sgn false 0, 0, ()) from rfl]
    rw [dec_round false 0 0 [] _ (by omega) (by omega) (by simp) (.inl rfl), loopP_succ, show 0 / 10 = 0 from rfl, dec_end false 0 _ _ (by simp) (by simp), ← hfin]
    rw [show (0 : Int).natAbs = 0 from rfl, digI_small (by omega)]
  · have hb : n.natAbs ≤ 9223372036854775808 := by omega
    have hl : n.natAbs.log2 ≤ 64 := by
      have : n.natAbs.log2 < 65 := (Nat.log2_lt h0).2 (by omega)
      omega
    have := dec_loop neg n n.natAbs [] 200 h0 hb (fun hf => by
      have : ¬ n < 0 := fun h => by rw [h2.2 h] at hf; cases hf
      omega) (by simp; omega) (by omega)
    rw [← h1] at this
    rw [this, List.append_nil, hfin]
abbrev P.s_l01Value_b0  (x1 : (Int × (ByteArray × (Int × Unit)))) (g2 : (Int × (ByteArray × (Int × Unit))) → Option ((Int × Bool) × Unit)) : Option ((Int × Bool) × Unit) :=
 (if ((decide (x1.1 < (((ByteArray.size x1.2.1) : Nat) : Int))) = true) then (if ((decide ((0 : Int) ≤ x1.1)) = true) then (if ((decide (x1.1 < (((ByteArray.size x1.2.1) : Nat) : Int))) = true) then (if ((decide ((byteAt x1.2.1 x1.1) ≥ (48 : Int))) = true) then (if ((decide ((0 : Int) ≤ x1.1)) = true) then (if ((decide (x1.1 < (((ByteArray.size x1.2.1) : Nat) : Int))) = true) then (if ((decide ((byteAt x1.2.1 x1.1) ≤ (57 : Int))) = true) then (if ((decide ((0 : Int) ≤ x1.1)) = true) then (if ((decide (x1.1 < (((ByteArray.size x1.2.1) : Nat) : Int))) = true) then (g2 ((Go.IntKind.wrap Go.IntKind.i64 (x1.1 + (1 : Int))) , (x1.2.1 , ((Go.IntKind.wrap Go.IntKind.i64 ((Go.IntKind.wrap Go.IntKind.i64 ((10 : Int) * x1.2.2.1)) + (Go.IntKind.wrap Go.IntKind.i64 (Go.IntKind.wrap Go.IntKind.u8 ((byteAt x1.2.1 x1.1) - (48 : Int)))))) , ()))))
 else none)
 else none)
 else (g2 ((Go.IntKind.wrap Go.IntKind.i64 (x1.1 + (1 : Int))) , (x1.2.1 , (x1.2.2.1 , ())))))
 else none)
 else none)
 else (g2 ((Go.IntKind.wrap Go.IntKind.i64 (x1.1 + (1 : Int))) , (x1.2.1 , (x1.2.2.1 , ())))))
 else none)
 else none)
 else (if ((decide ((0 : Int) < (((ByteArray.size x1.2.1) : Nat) : Int))) = true) then (if (((byteAt x1.2.1 (0 : Int)) == (45 : Int)) = true) then (Option.bind (S.s_l00In ((Go.IntKind.wrap Go.IntKind.i64 ((0 : Int) - x1.2.2.1)) , ((-1000000000 : Int) , ((1000000000 : Int) , ())))) (fun (y3 : (Bool × Unit)) => (if ((!y3.1) = true) then (some (((0 : Int) , false) , ()))
 else (Option.bind (S.s_l01Dec ((Go.IntKind.wrap Go.IntKind.i64 ((0 : Int) - x1.2.2.1)) , ())) (fun (y4 : (ByteArray × Unit)) => (if ((!((ByteArray.toList y4.1) == (ByteArray.toList x1.2.1))) = true) then (some (((0 : Int) , false) , ()))
 else (some (((Go.IntKind.wrap Go.IntKind.i64 ((0 : Int) - x1.2.2.1)) , true) , ()))))))))
 else (Option.bind (S.s_l00In (x1.2.2.1 , ((-1000000000 : Int) , ((1000000000 : Int) , ())))) (fun (y5 : (Bool × Unit)) => (if ((!y5.1) = true) then (some (((0 : Int) , false) , ()))
 else (Option.bind (S.s_l01Dec (x1.2.2.1 , ())) (fun (y6 : (ByteArray × Unit)) => (if ((!((ByteArray.toList y6.1) == (ByteArray.toList x1.2.1))) = true) then (some (((0 : Int) , false) , ()))
 else (some ((x1.2.2.1 , true) , ())))))))))
 else none))
def P.s_l01Value (k : Nat) (x : (ByteArray × Unit)) : (Option ((Int × Bool) × Unit)) :=
 (if ((decide ((((ByteArray.size x.1) : Nat) : Int) < (1 : Int))) = true) then (some (((0 : Int) , false) , ()))
 else (if ((decide ((((ByteArray.size x.1) : Nat) : Int) > (11 : Int))) = true) then (some (((0 : Int) , false) , ()))
 else (loopP (X := (Int × (ByteArray × (Int × Unit)))) (R := ((Int × Bool) × Unit)) (P.s_l01Value_b0 ) k ((0 : Int) , (x.1 , ((0 : Int) , ()))))))
theorem decDigits_len10 (k : Nat) : ∀ u : Nat, u < 10 ^ (k + 1) → (Go.Lib.decDigits u).length ≤ k + 1 := by
  induction k with
  | zero => intro u h; rw [Go.Lib.decDigits, dif_pos (by omega)]; simp
  | succ k ih =>
    intro u h
    rw [Go.Lib.decDigits]
    split
    · simp
    · have := ih (u / 10) (by rw [Nat.pow_succ] at h; omega)
      simp
      omega
/-- One byte more of a number. -/
def digStep (a : Nat) (c : UInt8) : Nat := if 48 ≤ c.toNat ∧ c.toNat ≤ 57 then 10 * a + (c.toNat - 48) else a
/-- What a text's digits spell. -/
def digVal (l : List UInt8) : Nat := l.foldl digStep 0
theorem digStep_lt (a : Nat) (c : UInt8) (m : Nat) (h : a < m) : digStep a c < 10 * m := by
  unfold digStep
  split <;> omega
theorem digVal_lt (l : List UInt8) : digVal l < 10 ^ l.length := by
  have key : ∀ (l : List UInt8) (a m : Nat), a < m → l.foldl digStep a < m * 10 ^ l.length := by
    intro l
    induction l with
    | nil => intro a m h; simpa using h
    | cons c r ih =>
      intro a m h
      have := ih (digStep a c) (10 * m) (digStep_lt a c m h)
      rw [List.foldl_cons, List.length_cons, Nat.pow_succ]
      have e : 10 * m * 10 ^ r.length = m * (10 ^ r.length * 10) := by
        rw [Nat.mul_comm 10 m, Nat.mul_assoc, Nat.mul_comm 10]
      omega
  have := key l 0 1 (by omega)
  simpa [digVal] using this
theorem digVal_snoc (l : List UInt8) (c : UInt8) : digVal (l ++ [c]) = digStep (digVal l) c := by simp [digVal]
theorem u8d (n : Nat) (h : n < 10) : (UInt8.ofNat (48 + n)).toNat = 48 + n := by
  simp
  omega
theorem digVal_dec (u : Nat) : digVal (Go.Lib.decDigits u) = u := by
  induction u using Nat.strongRecOn with
  | ind u ih =>
    rw [Go.Lib.decDigits]
    split
    · rename_i h
      show digStep 0 _ = u
      unfold digStep
      rw [u8d u h]
      split <;> omega
    · rename_i h
      rw [digVal_snoc, ih (u / 10) (by omega)]
      unfold digStep
      rw [u8d _ (Nat.mod_lt _ (by omega))]
      split <;> omega
theorem decDigits_all (u : Nat) : ∀ c ∈ Go.Lib.decDigits u, 48 ≤ c.toNat ∧ c.toNat ≤ 57 := by
  induction u using Nat.strongRecOn with
  | ind u ih =>
    intro c hc
    rw [Go.Lib.decDigits] at hc
    split at hc
    · rename_i h
      simp only [List.mem_singleton] at hc
      subst hc
      rw [u8d u h]
      omega
    · rename_i h
      rw [List.mem_append, List.mem_singleton] at hc
      rcases hc with hc | rfl
      · exact ih (u / 10) (by omega) c hc
      · rw [u8d _ (Nat.mod_lt _ (by omega))]
        omega
theorem decDigits_ne (u : Nat) : Go.Lib.decDigits u ≠ [] := by
  rw [Go.Lib.decDigits]
  split <;> simp
/-- A text's number, by its sign. -/
def sval (l : List UInt8) : Int := if l.head? = some 45 then -(digVal l : Int) else (digVal l : Int)
theorem sval_itoa (n : Int) : sval (Go.Lib.itoa n) = n := by
  unfold Go.Lib.itoa
  split
  · unfold sval
    rw [if_pos (by simp)]
    have : digVal (45 :: Go.Lib.decDigits n.natAbs) = digVal (Go.Lib.decDigits n.natAbs) := rfl
    rw [this, digVal_dec]
    omega
  · unfold sval
    have : ¬ (Go.Lib.decDigits n.toNat).head? = some 45 := by
      intro h
      have := decDigits_all n.toNat 45 (List.mem_of_mem_head? h)
      simp at this
    rw [if_neg this, digVal_dec]
    omega
theorem itoa_short (n : Int) (h : inB n = true) : (Go.Lib.itoa n).length ≤ 11 := by
  rw [inB_iff] at h
  unfold Go.Lib.itoa
  split
  · have := decDigits_len10 9 n.natAbs (by omega)
    simp
    omega
  · have := decDigits_len10 9 n.toNat (by omega)
    omega
/-- The number that a text tells, when it is some number's own text. -/
def rdNum (l : List UInt8) : Int × Bool := if l.length ≤ 11 ∧ inB (sval l) = true ∧ Go.Lib.itoa (sval l) = l then (sval l, true) else (0, false)
theorem rdNum_itoa (n : Int) (h : inB n = true) : rdNum (Go.Lib.itoa n) = (n, true) := by
  unfold rdNum
  rw [sval_itoa, if_pos ⟨itoa_short n h, h, rfl⟩]
theorem rdNum_none (l : List UInt8) (h : ∀ n, inB n = true → Go.Lib.itoa n ≠ l) : rdNum l = (0, false) := by
  unfold rdNum
  rw [if_neg (fun q => h _ q.2.1 q.2.2)]
def S.s_l01Value (x : (ByteArray × Unit)) : (Option ((Int × Bool) × Unit)) := some (rdNum x.1.data.toList, ())
theorem l01Value_end (s : ByteArray) (n : Int) (h0 : -100000000000 ≤ n) (h1 : n ≤ 100000000000) (hn : sval s.data.toList = n) (hl : s.data.toList.length ≤ 11) :
    Option.bind (S.s_l00In (n, -1000000000, 1000000000, ())) (fun (y3 : (Bool × Unit)) => (if ((!y3.1) = true) then (some (((0 : Int) , false) , ()))
 else (Option.bind (S.s_l01Dec (n , ())) (fun (y4 : (ByteArray × Unit)) => (if ((!((ByteArray.toList y4.1) == (ByteArray.toList s))) = true) then (some (((0 : Int) , false) , ()))
 else (some ((n , true) , ()))))))) = some (rdNum s.data.toList, ()) := by
  rw [in_s, Option.bind_some]
  dsimp only
  unfold rdNum
  rw [hn]
  cases hq : inB n
  · simp
  · have hd : S.s_l01Dec (n, ()) = some (⟨(Go.Lib.itoa n).toArray⟩, ()) := by
      rw [inB_iff] at hq
      unfold S.s_l01Dec
      dsimp only
      rw [if_pos (by omega)]
    rw [if_neg (by simp), hd, Option.bind_some]
    dsimp only
    rw [ByteArray.toList_eq, ByteArray.toList_eq]
    by_cases he : Go.Lib.itoa n = s.data.toList
    · rw [if_neg (by simp [he]), if_pos ⟨hl, rfl, he⟩]
    · rw [if_pos (by simp [he]), if_neg (fun q => he q.2.2)]
theorem u8sub (c : UInt8) (h : 48 ≤ c.toNat) : Go.IntKind.wrap Go.IntKind.u8 ((c.toNat : Int) - 48) = (c.toNat : Int) - 48 := IntWalk.u8_in _ (by have := c.toNat_lt; omega)
theorem S.s_l01Value_ok (x : (ByteArray × Unit)) (r : _) (h : S.s_l01Value x = some r) : ∃ k, P.s_l01Value k x = some r := by
  obtain ⟨s, u⟩ := x
  unfold S.s_l01Value at h
  dsimp only at h
  refine ⟨12, ?_⟩
  unfold P.s_l01Value
  dsimp only
  have hs : s.size = s.data.toList.length := by rw [Array.length_toList]; rfl
  rw [hs]
  rw [← h]
  generalize hL : s.data.toList = l
  by_cases h1 : l.length < 1
  · rw [if_pos (decide_eq_true (by omega))]
    have : l = [] := List.eq_nil_of_length_eq_zero (by omega)
    subst this
    rw [rdNum_none]
    intro n _ hn
    unfold Go.Lib.itoa at hn
    split at hn
    · simp at hn
    · exact decDigits_ne _ hn
  · by_cases h2 : l.length > 11
    · rw [if_neg (by simp; omega), if_pos (decide_eq_true (by omega))]
      unfold rdNum
      rw [if_neg (fun q => by omega)]
    · rw [if_neg (by simp; omega), if_neg (by simp; omega)]
      have key := loop_up0 (k := 12) (b := P.s_l01Value_b0) (n := l.length) (st := fun i => ((i : Int), s, (digVal (l.take i) : Int), ())) (F := fun i => some (rdNum l, ())) (fun i g hi hg => by
        unfold P.s_l01Value_b0
        dsimp only at hg ⊢
        rw [hs, hL]
        have e1 : (i : Int) < (l.length : Int) := by omega
        have e2 : (0 : Int) ≤ (i : Int) := by omega
        simp only [e1, e2, decide_true, if_true]
        have hb : byteAt s (i : Int) = (l[i].toNat : Int) := by
          unfold byteAt
          rw [hL, getD_cast l i _ hi]
        have hv := digVal_lt (l.take i)
        have hp : 10 ^ (l.take i).length ≤ 10 ^ 11 := Nat.pow_le_pow_right (by omega) (by simp; omega)
        have hsn : digVal (l.take (i + 1)) = digStep (digVal (l.take i)) l[i] := by
          rw [← List.take_append_getElem hi, digVal_snoc]
        have hc := l[i].toNat_lt
        rw [hb, wr (x := (i : Int) + 1) (by omega) (by omega)]
        rw [hsn] at hg
        unfold digStep at hg
        by_cases c1 : 48 ≤ l[i].toNat
        · rw [if_pos (decide_eq_true (by omega))]
          by_cases c2 : l[i].toNat ≤ 57
          · rw [if_pos (decide_eq_true (by omega)), u8sub _ c1, wr (x := (l[i].toNat : Int) - 48) (by omega) (by omega), wr (x := 10 * (digVal (l.take i) : Int)) (by omega) (by omega), wr (by omega) (by omega), ← hg, if_pos ⟨c1, c2⟩]
            congr 1
            simp only [Prod.mk.injEq]
            refine ⟨by omega, trivial, by omega, trivial⟩
          · rw [if_neg (by simp; omega), ← hg, if_neg (fun q => c2 q.2)]
            rfl
        · rw [if_neg (by simp; omega), ← hg, if_neg (fun q => c1 q.1)]
          rfl) (fun g => by
        unfold P.s_l01Value_b0
        dsimp only
        rw [hs, hL, List.take_length]
        have hv := digVal_lt l
        have hp : 10 ^ l.length ≤ 10 ^ 11 := Nat.pow_le_pow_right (by omega) (by omega)
        rw [if_neg (by simp), if_pos (decide_eq_true (by omega)), wr (by omega) (by omega)]
        have hb : byteAt s 0 = (l[0].toNat : Int) := by
          unfold byteAt
          rw [hL]
          simp [show 0 < l.length by omega]
        rw [hb]
        have hh : l.head? = some l[0] := by
          cases l with
          | nil => simp at h1
          | cons c r => rfl
        by_cases c1 : l[0].toNat = 45
        · rw [if_pos (by simp [c1])]
          have hs2 : sval s.data.toList = 0 - (digVal l : Int) := by
            rw [hL]
            unfold sval
            rw [hh, if_pos (by rw [Option.some.injEq]; exact UInt8.toNat_inj.1 c1)]
            omega
          rw [l01Value_end s _ (by omega) (by omega) hs2 (by rw [hL]; omega), hL]
        · rw [if_neg (by simp; omega)]
          have hs2 : sval s.data.toList = (digVal l : Int) := by
            rw [hL]
            unfold sval
            rw [hh, if_neg (by rw [Option.some.injEq]; intro q; rw [q] at c1; exact c1 rfl)]
          rw [l01Value_end s _ (by omega) (by omega) hs2 (by rw [hL]; omega), hL]) (by omega)
      exact key
def P.s_ReadDecimal (k : Nat) (x : (ByteArray × Unit)) : (Option ((Int × Bool) × Unit)) :=
 (Option.bind (S.s_l01Value (x.1 , ())) (fun (y0 : ((Int × Bool) × Unit)) => (some ((y0.1.1 , y0.1.2) , ()))))
def S.s_ReadDecimal (x : (ByteArray × Unit)) : (Option ((Int × Bool) × Unit)) := P.s_ReadDecimal 0 x
theorem S.s_ReadDecimal_ok (x : (ByteArray × Unit)) (r : _) (h : S.s_ReadDecimal x = some r) : ∃ k, P.s_ReadDecimal k x = some r := ⟨0, h⟩
def S.strconv_ParseInt (x : (ByteArray × (Int × (Int × Unit)))) : (Option ((Int × Bool) × Unit)) := if x.2.1 = 10 ∧ x.2.2.1 = 64 ∧ x.1.size ≤ 281474976710656 then some (match Go.Lib.parseIntB 64 x.1.data.toList with | .ok v => ((v, false), ()) | .«syntax» => ((0, true), ()) | .range => ((Go.Lib.intSat 64 x.1.data.toList, true), ())) else none
def P.i_in (k : Nat) (x : (Int × (Int × (Int × Unit)))) : (Option (Bool × Unit)) :=
 (if ((decide (x.1 ≥ x.2.1)) = true) then (some ((decide (x.1 ≤ x.2.2.1)) , ()))
 else (some (false , ())))
def S.i_in (x : (Int × (Int × (Int × Unit)))) : (Option (Bool × Unit)) := P.i_in 0 x
theorem S.i_in_ok (x : (Int × (Int × (Int × Unit)))) (r : _) (h : S.i_in x = some r) : ∃ k, P.i_in k x = some r := ⟨0, h⟩
def S.strconv_FormatInt (x : (Int × (Int × Unit))) : (Option (ByteArray × Unit)) := if x.2.1 = 10 ∧ -9223372036854775808 ≤ x.1 ∧ x.1 ≤ 9223372036854775807 then some (⟨(Go.Lib.itoa x.1).toArray⟩, ()) else none
def P.i_Decimal (k : Nat) (x : (Int × Unit)) : (Option (ByteArray × Unit)) :=
 (Option.bind (S.strconv_FormatInt (x.1 , ((10 : Int) , ()))) (fun (y0 : (ByteArray × Unit)) => (some (y0.1 , ()))))
def S.i_Decimal (x : (Int × Unit)) : (Option (ByteArray × Unit)) := P.i_Decimal 0 x
theorem S.i_Decimal_ok (x : (Int × Unit)) (r : _) (h : S.i_Decimal x = some r) : ∃ k, P.i_Decimal k x = some r := ⟨0, h⟩
def P.i_ReadDecimal (k : Nat) (x : (ByteArray × Unit)) : (Option ((Int × Bool) × Unit)) :=
 (Option.bind (S.strconv_ParseInt (x.1 , ((10 : Int) , ((64 : Int) , ())))) (fun (y0 : ((Int × Bool) × Unit)) => (if (y0.1.2 = true) then (some (((0 : Int) , false) , ()))
 else (Option.bind (S.i_in (y0.1.1 , ((-1000000000 : Int) , ((1000000000 : Int) , ())))) (fun (y1 : (Bool × Unit)) => (if ((!y1.1) = true) then (some (((0 : Int) , false) , ()))
 else (Option.bind (S.i_Decimal (y0.1.1 , ())) (fun (y2 : (ByteArray × Unit)) => (if ((!((ByteArray.toList y2.1) == (ByteArray.toList x.1))) = true) then (some (((0 : Int) , false) , ()))
 else (some ((y0.1.1 , true) , ())))))))))))
def S.i_ReadDecimal (x : (ByteArray × Unit)) : (Option ((Int × Bool) × Unit)) := P.i_ReadDecimal 0 x
theorem S.i_ReadDecimal_ok (x : (ByteArray × Unit)) (r : _) (h : S.i_ReadDecimal x = some r) : ∃ k, P.i_ReadDecimal k x = some r := ⟨0, h⟩
def P.l_FnExactReadDecimal (k : Nat) (x : (ByteArray × Unit)) : (Option (Bool × Unit)) :=
 (if ((decide ((((ByteArray.size x.1) : Nat) : Int) > (1000000 : Int))) = true) then (some (true , ()))
 else (Option.bind (S.s_ReadDecimal (x.1 , ())) (fun (y0 : ((Int × Bool) × Unit)) => (Option.bind (S.i_ReadDecimal (x.1 , ())) (fun (y1 : ((Int × Bool) × Unit)) => (if ((y1.1.1 != y0.1.1) = true) then (some (false , ()))
 else (if ((!(y1.1.2 == y0.1.2)) = true) then (some (false , ()))
 else (some (true , ())))))))))
def S.l_FnExactReadDecimal (x : (ByteArray × Unit)) : (Option (Bool × Unit)) := P.l_FnExactReadDecimal 0 x
theorem S.l_FnExactReadDecimal_ok (x : (ByteArray × Unit)) (r : _) (h : S.l_FnExactReadDecimal x = some r) : ∃ k, P.l_FnExactReadDecimal k x = some r := ⟨0, h⟩
end Go.Cm
end
