import Derived.Test.YtcbgagohjjdfeaaCmQa
set_option linter.unusedVariables false
set_option maxRecDepth 100000
noncomputable section
namespace Go.Cm
abbrev P.l_szStringS_b0  (x1 : (Int × ((List ByteArray) × (Int × Unit)))) (g2 : (Int × ((List ByteArray) × (Int × Unit))) → Option (Int × Unit)) : Option (Int × Unit) :=
 (if ((decide (x1.1 < (((List.length x1.2.1) : Nat) : Int))) = true) then (if ((decide ((0 : Int) ≤ x1.1)) = true) then (if ((decide (x1.1 < (((List.length x1.2.1) : Nat) : Int))) = true) then (if ((decide ((Go.IntKind.wrap Go.IntKind.i64 (x1.2.2.1 - (((ByteArray.size (List.getD x1.2.1 (Int.toNat x1.1) (bs []))) : Nat) : Int))) < (0 : Int))) = true) then (some ((-1 : Int) , ()))
 else (g2 ((Go.IntKind.wrap Go.IntKind.i64 (x1.1 + (1 : Int))) , (x1.2.1 , ((Go.IntKind.wrap Go.IntKind.i64 (x1.2.2.1 - (((ByteArray.size (List.getD x1.2.1 (Int.toNat x1.1) (bs []))) : Nat) : Int))) , ())))))
 else none)
 else none)
 else (some (x1.2.2.1 , ())))
def P.l_szStringS (k : Nat) (x : ((List ByteArray) × (Int × Unit))) : (Option (Int × Unit)) :=
 (if ((decide ((Go.IntKind.wrap Go.IntKind.i64 (x.2.1 - (((List.length x.1) : Nat) : Int))) < (0 : Int))) = true) then (some ((-1 : Int) , ()))
 else (loopP (X := (Int × ((List ByteArray) × (Int × Unit)))) (R := (Int × Unit)) (P.l_szStringS_b0 ) k ((0 : Int) , (x.1 , ((Go.IntKind.wrap Go.IntKind.i64 (x.2.1 - (((List.length x.1) : Nat) : Int))) , ())))))
def szGo : List ByteArray → Int → Int
  | [], l => l
  | x :: xs, l => if l - (x.size : Int) < 0 then -1 else szGo xs (l - (x.size : Int))
def szS (xs : List ByteArray) (left : Int) : Int := if left - (xs.length : Int) < 0 then -1 else szGo xs (left - (xs.length : Int))
theorem szGo_le : ∀ (xs : List ByteArray) (l : Int), 0 ≤ l → szGo xs l ≤ l ∧ -1 ≤ szGo xs l
  | [], l, h => by simp [szGo]; omega
  | x :: xs, l, h => by
    simp only [szGo]
    split
    · omega
    · have := szGo_le xs (l - (x.size : Int)) (by omega)
      omega
theorem szS_le (xs : List ByteArray) (l : Int) (h : 0 ≤ l) : szS xs l ≤ l ∧ -1 ≤ szS xs l := by
  unfold szS
  split
  · omega
  · have := szGo_le xs (l - (xs.length : Int)) (by omega)
    omega
theorem szS_len (xs : List ByteArray) (l : Int) (h : 0 ≤ szS xs l) : (xs.length : Int) ≤ l := by
  unfold szS at h
  split at h <;> omega
abbrev okTexts (xs : List ByteArray) : Prop := xs.length ≤ 9223372036854775807 ∧ ∀ x ∈ xs, x.size ≤ 9223372036854775807
open Classical in
def S.l_szStringS (x : ((List ByteArray) × (Int × Unit))) : (Option (Int × Unit)) := if okTexts x.1 ∧ 0 ≤ x.2.1 ∧ x.2.1 ≤ 1000000 then some (szS x.1 x.2.1, ()) else none
theorem S.l_szStringS_ok (x : ((List ByteArray) × (Int × Unit))) (r : _) (h : S.l_szStringS x = some r) : ∃ k, P.l_szStringS k x = some r := by
  obtain ⟨xs, left, u⟩ := x
  unfold S.l_szStringS at h
  split at h
  case isFalse => cases h
  rename_i hc
  obtain ⟨⟨hl, hs⟩, h0, h1⟩ := hc
  cases h
  refine ⟨xs.length + 1, ?_⟩
  unfold P.l_szStringS szS
  dsimp only at hl hs h0 h1 ⊢
  rw [wr (by omega) (by omega)]
  by_cases hn : left - (xs.length : Int) < 0
  · simp [hn]
  · simp only [hn, decide_false, Bool.false_eq_true, if_false]
    have key : ∀ m i k l, i + m = xs.length → m < k → 0 ≤ l → l ≤ 1000000 → loopP P.l_szStringS_b0 k ((i : Int), xs, l, ()) = some (szGo (xs.drop i) l, ()) := by
      intro m
      induction m with
      | zero =>
        intro i k l hi hk h0 h1
        cases k with
        | zero => omega
        | succ k =>
          have : i = xs.length := by omega
          subst this
          simp [loopP_succ, P.l_szStringS_b0, szGo]
      | succ m ih =>
        intro i k l hi hk h0 h1
        cases k with
        | zero => omega
        | succ k =>
          have hi' : i < xs.length := by omega
          have hsz := hs xs[i] (List.getElem_mem hi')
          rw [loopP_succ]
          unfold P.l_szStringS_b0
          rw [List.drop_eq_getElem_cons hi']
          dsimp only
          rw [getD_cast xs i _ hi', wr (by omega) (by omega), wr (x := (i : Int) + 1) (by omega) (by omega)]
          have e1 : (i : Int) < (xs.length : Int) := by omega
          have e2 : (0 : Int) ≤ (i : Int) := by omega
          simp only [e1, e2, decide_true, if_true, szGo]
          by_cases hq : l - (xs[i].size : Int) < 0
          · simp [hq]
          · simp only [hq, decide_false, Bool.false_eq_true, if_false]
            have := ih (i + 1) k (l - (xs[i].size : Int)) (by omega) (by omega) (by omega) (by omega)
            rw [← this]
            rfl
    have := key xs.length 0 (xs.length + 1) (left - (xs.length : Int)) (by omega) (by omega) (by omega) (by omega)
    rw [List.drop_zero] at this
    exact this
abbrev P.l_szStringSS_b0  (x1 : (Int × ((List (List ByteArray)) × (Int × Unit)))) (g2 : (Int × ((List (List ByteArray)) × (Int × Unit))) → Option (Int × Unit)) : Option (Int × Unit) :=
 (if ((decide (x1.1 < (((List.length x1.2.1) : Nat) : Int))) = true) then (if ((decide ((0 : Int) ≤ x1.1)) = true) then (if ((decide (x1.1 < (((List.length x1.2.1) : Nat) : Int))) = true) then (Option.bind (S.l_szStringS ((List.getD x1.2.1 (Int.toNat x1.1) ([] : List ByteArray)) , (x1.2.2.1 , ()))) (fun (y3 : (Int × Unit)) => (if ((decide (y3.1 < (0 : Int))) = true) then (some ((-1 : Int) , ()))
 else (g2 ((Go.IntKind.wrap Go.IntKind.i64 (x1.1 + (1 : Int))) , (x1.2.1 , (y3.1 , ())))))))
 else none)
 else none)
 else (some (x1.2.2.1 , ())))
def P.l_szStringSS (k : Nat) (x : ((List (List ByteArray)) × (Int × Unit))) : (Option (Int × Unit)) :=
 (if ((decide ((Go.IntKind.wrap Go.IntKind.i64 (x.2.1 - (((List.length x.1) : Nat) : Int))) < (0 : Int))) = true) then (some ((-1 : Int) , ()))
 else (loopP (X := (Int × ((List (List ByteArray)) × (Int × Unit)))) (R := (Int × Unit)) (P.l_szStringSS_b0 ) k ((0 : Int) , (x.1 , ((Go.IntKind.wrap Go.IntKind.i64 (x.2.1 - (((List.length x.1) : Nat) : Int))) , ())))))
def sz2Go : List (List ByteArray) → Int → Int
  | [], l => l
  | x :: xs, l => if szS x l < 0 then -1 else sz2Go xs (szS x l)
def sz2 (xs : List (List ByteArray)) (left : Int) : Int := if left - (xs.length : Int) < 0 then -1 else sz2Go xs (left - (xs.length : Int))
theorem sz2Go_le : ∀ (xs : List (List ByteArray)) (l : Int), 0 ≤ l → sz2Go xs l ≤ l ∧ -1 ≤ sz2Go xs l ∧ (0 ≤ sz2Go xs l → ∀ x ∈ xs, (x.length : Int) ≤ l)
  | [], l, h => by simp [sz2Go]; omega
  | x :: xs, l, h => by
    have a := szS_le x l h
    simp only [sz2Go]
    split
    · exact ⟨by omega, by omega, fun h0 => by omega⟩
    · obtain ⟨b1, b2, b3⟩ := sz2Go_le xs (szS x l) (by omega)
      refine ⟨by omega, b2, fun h0 y hy => ?_⟩
      rcases List.mem_cons.1 hy with rfl | hy
      · exact szS_len y l (by omega)
      · have := b3 h0 y hy
        omega
theorem sz2_le (xs : List (List ByteArray)) (l : Int) (h : 0 ≤ l) : sz2 xs l ≤ l ∧ -1 ≤ sz2 xs l ∧ (0 ≤ sz2 xs l → (xs.length : Int) ≤ l ∧ ∀ x ∈ xs, (x.length : Int) ≤ l) := by
  unfold sz2
  split
  · exact ⟨by omega, by omega, fun h0 => by omega⟩
  · obtain ⟨a, b, c⟩ := sz2Go_le xs (l - (xs.length : Int)) (by omega)
    refine ⟨by omega, b, fun h0 => ⟨by omega, fun x hx => ?_⟩⟩
    have := c h0 x hx
    omega
abbrev okTT (xs : List (List ByteArray)) : Prop := xs.length ≤ 9223372036854775807 ∧ ∀ x ∈ xs, okTexts x
open Classical in
def S.l_szStringSS (x : ((List (List ByteArray)) × (Int × Unit))) : (Option (Int × Unit)) := if okTT x.1 ∧ 0 ≤ x.2.1 ∧ x.2.1 ≤ 1000000 then some (sz2 x.1 x.2.1, ()) else none
theorem S.l_szStringSS_ok (x : ((List (List ByteArray)) × (Int × Unit))) (r : _) (h : S.l_szStringSS x = some r) : ∃ k, P.l_szStringSS k x = some r := by
  obtain ⟨xs, left, u⟩ := x
  unfold S.l_szStringSS at h
  split at h
  case isFalse => cases h
  rename_i hc
  obtain ⟨⟨hl, hs⟩, h0, h1⟩ := hc
  cases h
  refine ⟨xs.length + 1, ?_⟩
  unfold P.l_szStringSS sz2
  dsimp only at hl hs h0 h1 ⊢
  rw [wr (by omega) (by omega)]
  by_cases hn : left - (xs.length : Int) < 0
  · simp [hn]
  · simp only [hn, decide_false, Bool.false_eq_true, if_false]
    have key : ∀ m i k l, i + m = xs.length → m < k → 0 ≤ l → l ≤ 1000000 → loopP P.l_szStringSS_b0 k ((i : Int), xs, l, ()) = some (sz2Go (xs.drop i) l, ()) := by
      intro m
      induction m with
      | zero =>
        intro i k l hi hk h0 h1
        cases k with
        | zero => omega
        | succ k =>
          have : i = xs.length := by omega
          subst this
          simp [loopP_succ, P.l_szStringSS_b0, sz2Go]
      | succ m ih =>
        intro i k l hi hk h0 h1
        cases k with
        | zero => omega
        | succ k =>
          have hi' : i < xs.length := by omega
          have hsz := hs xs[i] (List.getElem_mem hi')
          rw [loopP_succ]
          unfold P.l_szStringSS_b0
          rw [List.drop_eq_getElem_cons hi']
          dsimp only
          have e1 : (i : Int) < (xs.length : Int) := by omega
          have e2 : (0 : Int) ≤ (i : Int) := by omega
          have a := szS_le xs[i] l h0
          have es : S.l_szStringS (xs[i], l, ()) = some (szS xs[i] l, ()) := by
            unfold S.l_szStringS
            rw [if_pos ⟨hsz, h0, h1⟩]
          rw [getD_cast xs i _ hi', wr (x := (i : Int) + 1) (by omega) (by omega), es]
          simp only [e1, e2, decide_true, if_true, sz2Go, Option.bind_some]
          by_cases hq : szS xs[i] l < 0
          · simp [hq]
          · simp only [hq, decide_false, Bool.false_eq_true, if_false]
            have := ih (i + 1) k (szS xs[i] l) (by omega) (by omega) (by omega) (by omega)
            rw [← this]
            rfl
    have := key xs.length 0 (xs.length + 1) (left - (xs.length : Int)) (by omega) (by omega) (by omega) (by omega)
    rw [List.drop_zero] at this
    exact this
def P.l_szChain (k : Nat) (x : ((List (List ByteArray)) × (Int × Unit))) : (Option (Int × Unit)) :=
 (Option.bind (S.l_szStringSS (x.1 , (x.2.1 , ()))) (fun (y0 : (Int × Unit)) => (if ((decide (y0.1 < (0 : Int))) = true) then (some ((-1 : Int) , ()))
 else (some (y0.1 , ())))))
def S.l_szChain (x : ((List (List ByteArray)) × (Int × Unit))) : (Option (Int × Unit)) := P.l_szChain 0 x
theorem S.l_szChain_ok (x : ((List (List ByteArray)) × (Int × Unit))) (r : _) (h : S.l_szChain x = some r) : ∃ k, P.l_szChain k x = some r := ⟨0, h⟩
def P.l_roomBehind (k : Nat) (x : (Int × Unit)) : (Option (Int × Unit)) :=
 (if (((Int.tmod x.1 (6 : Int)) == (5 : Int)) = true) then (some ((0 : Int) , ()))
 else (if (((Int.tmod x.1 (3 : Int)) == (0 : Int)) = true) then (some ((1 : Int) , ()))
 else (some (x.1 , ()))))
def S.l_roomBehind (x : (Int × Unit)) : (Option (Int × Unit)) := P.l_roomBehind 0 x
theorem S.l_roomBehind_ok (x : (Int × Unit)) (r : _) (h : S.l_roomBehind x = some r) : ∃ k, P.l_roomBehind k x = some r := ⟨0, h⟩
abbrev P.l_toStringS_b4 (k : Nat) (x5 : (Int × ((List ByteArray) × ((List ByteArray) × Unit)))) (g6 : (Int × ((List ByteArray) × ((List ByteArray) × Unit))) → Option (((List ByteArray) × Nat) × Unit)) : Option (((List ByteArray) × Nat) × Unit) :=
 (if ((decide (x5.1 < (((vlen x5.2.1 none) : Nat) : Int))) = true) then (if ((decide ((0 : Int) ≤ x5.1)) = true) then (if ((decide (x5.1 < (((vlen x5.2.1 none) : Nat) : Int))) = true) then (g6 ((Go.IntKind.wrap Go.IntKind.i64 (x5.1 + (1 : Int))) , ((look (List.set x5.2.1 (0 + (Int.toNat x5.1)) (bs [126, 115, 112, 97, 114, 101, 126])) none) , (x5.2.2.1 , ()))))
 else none)
 else none)
 else (if ((decide ((0 : Int) ≤ (((List.length x5.2.2.1) : Nat) : Int))) = true) then (if ((decide (((((List.length x5.2.2.1) : Nat) : Int) + (0 : Int)) ≤ (((List.length x5.2.1) : Nat) : Int))) = true) then (if ((decide ((0 : Int) ≤ (((List.length x5.2.2.1) : Nat) : Int))) = true) then (some (((List.drop (0 : Nat) x5.2.1) , (vlen x5.2.1 (some ((0 : Nat) , ((Int.toNat (((List.length x5.2.2.1) : Nat) : Int)) - (0 : Nat)))))) , ()))
 else none)
 else none)
 else none))
abbrev P.l_toStringS_b1 (k : Nat) (x2 : (Int × ((List ByteArray) × ((List ByteArray) × Unit)))) (g3 : (Int × ((List ByteArray) × ((List ByteArray) × Unit))) → Option (((List ByteArray) × Nat) × Unit)) : Option (((List ByteArray) × Nat) × Unit) :=
 (if ((decide (x2.1 < (((List.length x2.2.1) : Nat) : Int))) = true) then (if ((decide ((0 : Int) ≤ x2.1)) = true) then (if ((decide (x2.1 < (((List.length x2.2.1) : Nat) : Int))) = true) then (if ((decide ((0 : Int) ≤ x2.1)) = true) then (if ((decide (x2.1 < (((vlen x2.2.2.1 none) : Nat) : Int))) = true) then (g3 ((Go.IntKind.wrap Go.IntKind.i64 (x2.1 + (1 : Int))) , (x2.2.1 , ((look (List.set x2.2.2.1 (0 + (Int.toNat x2.1)) (List.getD x2.2.1 (Int.toNat x2.1) (bs []))) none) , ()))))
 else none)
 else none)
 else none)
 else none)
 else (loopP (X := (Int × ((List ByteArray) × ((List ByteArray) × Unit)))) (R := (((List ByteArray) × Nat) × Unit)) (P.l_toStringS_b4 k) k ((((List.length x2.2.1) : Nat) : Int) , ((look x2.2.2.1 none) , (x2.2.1 , ())))))
abbrev P.l_toStringS_b11 (k : Nat) (x12 : (Int × ((List ByteArray) × ((List ByteArray) × Unit)))) (g13 : (Int × ((List ByteArray) × ((List ByteArray) × Unit))) → Option (((List ByteArray) × Nat) × Unit)) : Option (((List ByteArray) × Nat) × Unit) :=
 (if ((decide (x12.1 < (((vlen x12.2.1 none) : Nat) : Int))) = true) then (if ((decide ((0 : Int) ≤ x12.1)) = true) then (if ((decide (x12.1 < (((vlen x12.2.1 none) : Nat) : Int))) = true) then (g13 ((Go.IntKind.wrap Go.IntKind.i64 (x12.1 + (1 : Int))) , ((look (List.set x12.2.1 (0 + (Int.toNat x12.1)) (bs [126, 115, 112, 97, 114, 101, 126])) none) , (x12.2.2.1 , ()))))
 else none)
 else none)
 else (if ((decide ((0 : Int) ≤ (((List.length x12.2.2.1) : Nat) : Int))) = true) then (if ((decide (((((List.length x12.2.2.1) : Nat) : Int) + (0 : Int)) ≤ (((List.length x12.2.1) : Nat) : Int))) = true) then (if ((decide ((0 : Int) ≤ (((List.length x12.2.2.1) : Nat) : Int))) = true) then (some (((List.drop (0 : Nat) x12.2.1) , (vlen x12.2.1 (some ((0 : Nat) , ((Int.toNat (((List.length x12.2.2.1) : Nat) : Int)) - (0 : Nat)))))) , ()))
 else none)
 else none)
 else none))
abbrev P.l_toStringS_b8 (k : Nat) (x9 : (Int × ((List ByteArray) × ((List ByteArray) × Unit)))) (g10 : (Int × ((List ByteArray) × ((List ByteArray) × Unit))) → Option (((List ByteArray) × Nat) × Unit)) : Option (((List ByteArray) × Nat) × Unit) :=
 (if ((decide (x9.1 < (((List.length x9.2.1) : Nat) : Int))) = true) then (if ((decide ((0 : Int) ≤ x9.1)) = true) then (if ((decide (x9.1 < (((List.length x9.2.1) : Nat) : Int))) = true) then (if ((decide ((0 : Int) ≤ x9.1)) = true) then (if ((decide (x9.1 < (((vlen x9.2.2.1 none) : Nat) : Int))) = true) then (g10 ((Go.IntKind.wrap Go.IntKind.i64 (x9.1 + (1 : Int))) , (x9.2.1 , ((look (List.set x9.2.2.1 (0 + (Int.toNat x9.1)) (List.getD x9.2.1 (Int.toNat x9.1) (bs []))) none) , ()))))
 else none)
 else none)
 else none)
 else none)
 else (loopP (X := (Int × ((List ByteArray) × ((List ByteArray) × Unit)))) (R := (((List ByteArray) × Nat) × Unit)) (P.l_toStringS_b11 k) k ((((List.length x9.2.1) : Nat) : Int) , ((look x9.2.2.1 none) , (x9.2.1 , ())))))
def P.l_toStringS (k : Nat) (x : ((List ByteArray) × (Bool × Unit))) : (Option (((List ByteArray) × Nat) × Unit)) :=
 (if (x.2.1 = true) then (if (((((List.length x.1) : Nat) : Int) == (0 : Int)) = true) then (some ((([] : List ByteArray) , 0) , ()))
 else (Option.bind (S.l_roomBehind ((((List.length x.1) : Nat) : Int) , ())) (fun (y0 : (Int × Unit)) => (if ((decide ((0 : Int) ≤ (Go.IntKind.wrap Go.IntKind.i64 ((((List.length x.1) : Nat) : Int) + y0.1)))) = true) then (if ((decide ((Go.IntKind.wrap Go.IntKind.i64 ((((List.length x.1) : Nat) : Int) + y0.1)) ≤ (Go.IntKind.wrap Go.IntKind.i64 ((((List.length x.1) : Nat) : Int) + y0.1)))) = true) then (if ((decide (((Go.IntKind.wrap Go.IntKind.i64 ((((List.length x.1) : Nat) : Int) + y0.1)) * (16 : Int)) ≤ (281474976710656 : Int))) = true) then (loopP (X := (Int × ((List ByteArray) × ((List ByteArray) × Unit)))) (R := (((List ByteArray) × Nat) × Unit)) (P.l_toStringS_b1 k) k ((0 : Int) , (x.1 , ((look (List.replicate (Int.toNat (Go.IntKind.wrap Go.IntKind.i64 ((((List.length x.1) : Nat) : Int) + y0.1))) (bs [])) (if (true = true) then none
 else (some (0 , (Int.toNat (Go.IntKind.wrap Go.IntKind.i64 ((((List.length x.1) : Nat) : Int) + y0.1))))))) , ()))))
 else none)
 else none)
 else none))))
 else (Option.bind (S.l_roomBehind ((((List.length x.1) : Nat) : Int) , ())) (fun (y7 : (Int × Unit)) => (if ((decide ((0 : Int) ≤ (Go.IntKind.wrap Go.IntKind.i64 ((((List.length x.1) : Nat) : Int) + y7.1)))) = true) then (if ((decide ((Go.IntKind.wrap Go.IntKind.i64 ((((List.length x.1) : Nat) : Int) + y7.1)) ≤ (Go.IntKind.wrap Go.IntKind.i64 ((((List.length x.1) : Nat) : Int) + y7.1)))) = true) then (if ((decide (((Go.IntKind.wrap Go.IntKind.i64 ((((List.length x.1) : Nat) : Int) + y7.1)) * (16 : Int)) ≤ (281474976710656 : Int))) = true) then (loopP (X := (Int × ((List ByteArray) × ((List ByteArray) × Unit)))) (R := (((List ByteArray) × Nat) × Unit)) (P.l_toStringS_b8 k) k ((0 : Int) , (x.1 , ((look (List.replicate (Int.toNat (Go.IntKind.wrap Go.IntKind.i64 ((((List.length x.1) : Nat) : Int) + y7.1))) (bs [])) (if (true = true) then none
 else (some (0 , (Int.toNat (Go.IntKind.wrap Go.IntKind.i64 ((((List.length x.1) : Nat) : Int) + y7.1))))))) , ()))))
 else none)
 else none)
 else none))))
def spare : ByteArray := bs [126, 115, 112, 97, 114, 101, 126]
/-- A list with what is laid behind it. -/
def tos {α : Type} (fill : α) (bare : Bool) (xs : List α) : List α × Nat := if bare = true ∧ xs = [] then ([], 0) else (xs ++ List.replicate (rb xs.length).toNat fill, xs.length)
theorem tos_take {α : Type} (fill : α) (bare : Bool) (xs : List α) : (tos fill bare xs).1.take (tos fill bare xs).2 = xs := by
  unfold tos
  split
  · rename_i h; rw [h.2]; rfl
  · simp
def S.l_toStringS (x : ((List ByteArray) × (Bool × Unit))) : (Option (((List ByteArray) × Nat) × Unit)) := if x.1.length ≤ 1000000 then some (tos spare x.2.1 x.1, ()) else none
theorem toStringS_b4 (k0 : Nat) (xs : List ByteArray) (m n k : Nat) (h : n = xs.length) (hl : n ≤ 1000000) (hm : m ≤ n + 1) (hk : m < k) :
    loopP (P.l_toStringS_b4 k0) k ((n : Int), xs ++ List.replicate m (bs []), xs, ()) = some ((xs ++ List.replicate m spare, n), ()) := by
  have key := loop_up0 (b := P.l_toStringS_b4 k0) (n := m) (st := fun i => (((n + i : Nat) : Int), (xs ++ List.replicate i spare) ++ List.replicate (m - i) (bs []), xs, ())) (F := fun i => some ((xs ++ List.replicate m spare, n), ())) (fun i g hi hg => by
    unfold P.l_toStringS_b4
    dsimp only [vlen, look] at hg ⊢
    have hlen : ((xs ++ List.replicate i spare) ++ List.replicate (m - i) (bs [])).length = n + m := by simp; omega
    simp only [hlen]
    have e1 : ((n + i : Nat) : Int) < ((n + m : Nat) : Int) := by omega
    have e2 : (0 : Int) ≤ ((n + i : Nat) : Int) := by omega
    simp only [e1, e2, decide_true, if_true]
    rw [wr (by omega) (by omega), ← hg]
    congr 1
    have e3 : m - i = (m - (i + 1)) + 1 := by omega
    have e4 : (0 + ((n + i : Nat) : Int).toNat) = (xs ++ List.replicate i spare).length := by rw [List.length_append, List.length_replicate]; omega
    rw [e3, e4, set_fill]
    simp only [List.replicate_succ', ← List.append_assoc, spare]
    rfl) (fun g => by
    unfold P.l_toStringS_b4
    dsimp only [vlen, look]
    have hlen : ((xs ++ List.replicate m spare) ++ List.replicate (m - m) (bs [])).length = n + m := by simp; omega
    simp only [hlen]
    have e1 : ¬ ((n + m : Nat) : Int) < ((n + m : Nat) : Int) := by omega
    have e2 : (0 : Int) ≤ (xs.length : Int) := by omega
    have e3 : (xs.length : Int) + 0 ≤ ((n + m : Nat) : Int) := by omega
    simp only [e1, e2, e3, decide_true, decide_false, if_true, Bool.false_eq_true, if_false]
    simp [h]) hk
  simpa using key
theorem toStringS_b1 (k0 : Nat) (xs : List ByteArray) (m k : Nat) (hl : xs.length ≤ 1000000) (hm : m ≤ xs.length + 1) (hk0 : m < k0) (hk : xs.length < k) :
    loopP (P.l_toStringS_b1 k0) k ((0 : Int), xs, List.replicate (xs.length + m) (bs []), ()) = some ((xs ++ List.replicate m spare, xs.length), ()) := by
  have key := loop_up0 (b := P.l_toStringS_b1 k0) (n := xs.length) (st := fun i => ((i : Int), xs, xs.take i ++ List.replicate (xs.length - i + m) (bs []), ())) (F := fun i => some ((xs ++ List.replicate m spare, xs.length), ())) (fun i g hi hg => by
    unfold P.l_toStringS_b1
    dsimp only [vlen, look] at hg ⊢
    have hlen : (xs.take i ++ List.replicate (xs.length - i + m) (bs [])).length = xs.length + m := by simp; omega
    simp only [hlen]
    have e1 : (i : Int) < (xs.length : Int) := by omega
    have e1' : (i : Int) < ((xs.length + m : Nat) : Int) := by omega
    have e2 : (0 : Int) ≤ (i : Int) := by omega
    simp only [e1, e1', e2, decide_true, if_true]
    rw [wr (by omega) (by omega), getD_cast xs i _ hi, ← hg]
    congr 1
    have e3 : xs.length - i + m = (xs.length - (i + 1) + m) + 1 := by omega
    have e4 : (0 + (i : Int).toNat) = (xs.take i).length := by simp; omega
    rw [e3, e4, set_fill]
    simp) (fun g => by
    unfold P.l_toStringS_b1
    dsimp only [vlen, look]
    have e1 : ¬ (xs.length : Int) < (xs.length : Int) := by omega
    simp only [e1, decide_false, Bool.false_eq_true, if_false]
    have := toStringS_b4 k0 xs m xs.length k0 rfl hl hm hk0
    simpa using this) hk
  simpa using key
theorem S.l_toStringS_ok (x : ((List ByteArray) × (Bool × Unit))) (r : _) (h : S.l_toStringS x = some r) : ∃ k, P.l_toStringS k x = some r := by
  obtain ⟨xs, bare, u⟩ := x
  unfold S.l_toStringS at h
  dsimp only at h
  split at h
  case isFalse => cases h
  rename_i hl
  cases h
  refine ⟨xs.length + 2, ?_⟩
  have hr := rb_le xs.length
  have go : (Option.bind (S.l_roomBehind ((((List.length xs) : Nat) : Int) , ())) (fun (y0 : (Int × Unit)) => (if ((decide ((0 : Int) ≤ (Go.IntKind.wrap Go.IntKind.i64 ((((List.length xs) : Nat) : Int) + y0.1)))) = true) then (if ((decide ((Go.IntKind.wrap Go.IntKind.i64 ((((List.length xs) : Nat) : Int) + y0.1)) ≤ (Go.IntKind.wrap Go.IntKind.i64 ((((List.length xs) : Nat) : Int) + y0.1)))) = true) then (if ((decide (((Go.IntKind.wrap Go.IntKind.i64 ((((List.length xs) : Nat) : Int) + y0.1)) * (16 : Int)) ≤ (281474976710656 : Int))) = true) then (loopP (X := (Int × ((List ByteArray) × ((List ByteArray) × Unit)))) (R := (((List ByteArray) × Nat) × Unit)) (P.l_toStringS_b1 (xs.length + 2)) (xs.length + 2) ((0 : Int) , (xs , ((look (List.replicate (Int.toNat (Go.IntKind.wrap Go.IntKind.i64 ((((List.length xs) : Nat) : Int) + y0.1))) (bs [])) (if (true = true) then none
 else (some (0 , (Int.toNat (Go.IntKind.wrap Go.IntKind.i64 ((((List.length xs) : Nat) : Int) + y0.1))))))) , ()))))
 else none)
 else none)
 else none))) = some ((xs ++ List.replicate (rb xs.length).toNat spare, xs.length), ()) := by
    have e0 : S.l_roomBehind ((xs.length : Int), ()) = some (rb xs.length, ()) := by
      unfold S.l_roomBehind P.l_roomBehind rb
      simp only [beq_iff_eq]
      split
      · rfl
      · split <;> rfl
    rw [e0, Option.bind_some]
    dsimp only [look]
    rw [wr (by omega) (by omega)]
    have e1 : (0 : Int) ≤ (xs.length : Int) + rb xs.length := by omega
    have e2 : (xs.length : Int) + rb xs.length ≤ (xs.length : Int) + rb xs.length := by omega
    have e3 : ((xs.length : Int) + rb xs.length) * 16 ≤ 281474976710656 := by omega
    simp only [e1, e2, e3, decide_true, if_true]
    have e4 : ((xs.length : Int) + rb xs.length).toNat = xs.length + (rb xs.length).toNat := by omega
    rw [e4]
    exact toStringS_b1 _ xs _ _ hl (by omega) (by omega) (by omega)
  unfold P.l_toStringS tos
  dsimp only
  cases bare with
  | true =>
    simp only [if_true]
    by_cases hx : xs = []
    · subst hx; rfl
    · have hx' : ¬ ((((xs.length : Nat) : Int) == 0) = true) := by
        simp [hx]
      rw [if_neg hx', if_neg (by simp [hx])]
      exact go
  | false =>
    simp only [Bool.false_eq_true, if_false, false_and]
    exact go
abbrev P.l_toStringSS_b5 (k : Nat) (x6 : (Int × ((List ((List ByteArray) × Nat)) × ((List (List ByteArray)) × Unit)))) (g7 : (Int × ((List ((List ByteArray) × Nat)) × ((List (List ByteArray)) × Unit))) → Option (((List ((List ByteArray) × Nat)) × Nat) × Unit)) : Option (((List ((List ByteArray) × Nat)) × Nat) × Unit) :=
 (if ((decide (x6.1 < (((vlen x6.2.1 none) : Nat) : Int))) = true) then (if ((decide ((0 : Int) ≤ x6.1)) = true) then (if ((decide (x6.1 < (((vlen x6.2.1 none) : Nat) : Int))) = true) then (g7 ((Go.IntKind.wrap Go.IntKind.i64 (x6.1 + (1 : Int))) , ((look (List.set x6.2.1 (0 + (Int.toNat x6.1)) ((List.drop 0 ((bs [126, 115, 112, 97, 114, 101, 126]) :: ([] : List ByteArray))) , (1 : Nat))) none) , (x6.2.2.1 , ()))))
 else none)
 else none)
 else (if ((decide ((0 : Int) ≤ (((List.length x6.2.2.1) : Nat) : Int))) = true) then (if ((decide (((((List.length x6.2.2.1) : Nat) : Int) + (0 : Int)) ≤ (((List.length x6.2.1) : Nat) : Int))) = true) then (if ((decide ((0 : Int) ≤ (((List.length x6.2.2.1) : Nat) : Int))) = true) then (some (((List.drop (0 : Nat) x6.2.1) , (vlen x6.2.1 (some ((0 : Nat) , ((Int.toNat (((List.length x6.2.2.1) : Nat) : Int)) - (0 : Nat)))))) , ()))
 else none)
 else none)
 else none))
abbrev P.l_toStringSS_b1 (k : Nat) (x2 : (Int × ((List (List ByteArray)) × ((List ((List ByteArray) × Nat)) × (Bool × Unit))))) (g3 : (Int × ((List (List ByteArray)) × ((List ((List ByteArray) × Nat)) × (Bool × Unit)))) → Option (((List ((List ByteArray) × Nat)) × Nat) × Unit)) : Option (((List ((List ByteArray) × Nat)) × Nat) × Unit) :=
 (if ((decide (x2.1 < (((List.length x2.2.1) : Nat) : Int))) = true) then (if ((decide ((0 : Int) ≤ x2.1)) = true) then (if ((decide (x2.1 < (((List.length x2.2.1) : Nat) : Int))) = true) then (Option.bind (S.l_toStringS ((List.getD x2.2.1 (Int.toNat x2.1) ([] : List ByteArray)) , (x2.2.2.2.1 , ()))) (fun (y4 : (((List ByteArray) × Nat) × Unit)) => (if ((decide ((0 : Int) ≤ x2.1)) = true) then (if ((decide (x2.1 < (((vlen x2.2.2.1 none) : Nat) : Int))) = true) then (g3 ((Go.IntKind.wrap Go.IntKind.i64 (x2.1 + (1 : Int))) , (x2.2.1 , ((look (List.set x2.2.2.1 (0 + (Int.toNat x2.1)) (y4.1.1 , y4.1.2)) none) , (x2.2.2.2.1 , ())))))
 else none)
 else none)))
 else none)
 else none)
 else (loopP (X := (Int × ((List ((List ByteArray) × Nat)) × ((List (List ByteArray)) × Unit)))) (R := (((List ((List ByteArray) × Nat)) × Nat) × Unit)) (P.l_toStringSS_b5 k) k ((((List.length x2.2.1) : Nat) : Int) , ((look x2.2.2.1 none) , (x2.2.1 , ())))))
abbrev P.l_toStringSS_b13 (k : Nat) (x14 : (Int × ((List ((List ByteArray) × Nat)) × ((List (List ByteArray)) × Unit)))) (g15 : (Int × ((List ((List ByteArray) × Nat)) × ((List (List ByteArray)) × Unit))) → Option (((List ((List ByteArray) × Nat)) × Nat) × Unit)) : Option (((List ((List ByteArray) × Nat)) × Nat) × Unit) :=
 (if ((decide (x14.1 < (((vlen x14.2.1 none) : Nat) : Int))) = true) then (if ((decide ((0 : Int) ≤ x14.1)) = true) then (if ((decide (x14.1 < (((vlen x14.2.1 none) : Nat) : Int))) = true) then (g15 ((Go.IntKind.wrap Go.IntKind.i64 (x14.1 + (1 : Int))) , ((look (List.set x14.2.1 (0 + (Int.toNat x14.1)) ((List.drop 0 ((bs [126, 115, 112, 97, 114, 101, 126]) :: ([] : List ByteArray))) , (1 : Nat))) none) , (x14.2.2.1 , ()))))
 else none)
 else none)
 else (if ((decide ((0 : Int) ≤ (((List.length x14.2.2.1) : Nat) : Int))) = true) then (if ((decide (((((List.length x14.2.2.1) : Nat) : Int) + (0 : Int)) ≤ (((List.length x14.2.1) : Nat) : Int))) = true) then (if ((decide ((0 : Int) ≤ (((List.length x14.2.2.1) : Nat) : Int))) = true) then (some (((List.drop (0 : Nat) x14.2.1) , (vlen x14.2.1 (some ((0 : Nat) , ((Int.toNat (((List.length x14.2.2.1) : Nat) : Int)) - (0 : Nat)))))) , ()))
 else none)
 else none)
 else none))
abbrev P.l_toStringSS_b9 (k : Nat) (x10 : (Int × ((List (List ByteArray)) × ((List ((List ByteArray) × Nat)) × (Bool × Unit))))) (g11 : (Int × ((List (List ByteArray)) × ((List ((List ByteArray) × Nat)) × (Bool × Unit)))) → Option (((List ((List ByteArray) × Nat)) × Nat) × Unit)) : Option (((List ((List ByteArray) × Nat)) × Nat) × Unit) :=
 (if ((decide (x10.1 < (((List.length x10.2.1) : Nat) : Int))) = true) then (if ((decide ((0 : Int) ≤ x10.1)) = true) then (if ((decide (x10.1 < (((List.length x10.2.1) : Nat) : Int))) = true) then (Option.bind (S.l_toStringS ((List.getD x10.2.1 (Int.toNat x10.1) ([] : List ByteArray)) , (x10.2.2.2.1 , ()))) (fun (y12 : (((List ByteArray) × Nat) × Unit)) => (if ((decide ((0 : Int) ≤ x10.1)) = true) then (if ((decide (x10.1 < (((vlen x10.2.2.1 none) : Nat) : Int))) = true) then (g11 ((Go.IntKind.wrap Go.IntKind.i64 (x10.1 + (1 : Int))) , (x10.2.1 , ((look (List.set x10.2.2.1 (0 + (Int.toNat x10.1)) (y12.1.1 , y12.1.2)) none) , (x10.2.2.2.1 , ())))))
 else none)
 else none)))
 else none)
 else none)
 else (loopP (X := (Int × ((List ((List ByteArray) × Nat)) × ((List (List ByteArray)) × Unit)))) (R := (((List ((List ByteArray) × Nat)) × Nat) × Unit)) (P.l_toStringSS_b13 k) k ((((List.length x10.2.1) : Nat) : Int) , ((look x10.2.2.1 none) , (x10.2.1 , ())))))
def P.l_toStringSS (k : Nat) (x : ((List (List ByteArray)) × (Bool × Unit))) : (Option (((List ((List ByteArray) × Nat)) × Nat) × Unit)) :=
 (if (x.2.1 = true) then (if (((((List.length x.1) : Nat) : Int) == (0 : Int)) = true) then (some ((([] : List ((List ByteArray) × Nat)) , 0) , ()))
 else (Option.bind (S.l_roomBehind ((((List.length x.1) : Nat) : Int) , ())) (fun (y0 : (Int × Unit)) => (if ((decide ((0 : Int) ≤ (Go.IntKind.wrap Go.IntKind.i64 ((((List.length x.1) : Nat) : Int) + y0.1)))) = true) then (if ((decide ((Go.IntKind.wrap Go.IntKind.i64 ((((List.length x.1) : Nat) : Int) + y0.1)) ≤ (Go.IntKind.wrap Go.IntKind.i64 ((((List.length x.1) : Nat) : Int) + y0.1)))) = true) then (if ((decide (((Go.IntKind.wrap Go.IntKind.i64 ((((List.length x.1) : Nat) : Int) + y0.1)) * (24 : Int)) ≤ (281474976710656 : Int))) = true) then (loopP (X := (Int × ((List (List ByteArray)) × ((List ((List ByteArray) × Nat)) × (Bool × Unit))))) (R := (((List ((List ByteArray) × Nat)) × Nat) × Unit)) (P.l_toStringSS_b1 k) k ((0 : Int) , (x.1 , ((look (List.replicate (Int.toNat (Go.IntKind.wrap Go.IntKind.i64 ((((List.length x.1) : Nat) : Int) + y0.1))) (([] : List ByteArray) , 0)) (if (true = true) then none
 else (some (0 , (Int.toNat (Go.IntKind.wrap Go.IntKind.i64 ((((List.length x.1) : Nat) : Int) + y0.1))))))) , (x.2.1 , ())))))
 else none)
 else none)
 else none))))
 else (Option.bind (S.l_roomBehind ((((List.length x.1) : Nat) : Int) , ())) (fun (y8 : (Int × Unit)) => (if ((decide ((0 : Int) ≤ (Go.IntKind.wrap Go.IntKind.i64 ((((List.length x.1) : Nat) : Int) + y8.1)))) = true) then (if ((decide ((Go.IntKind.wrap Go.IntKind.i64 ((((List.length x.1) : Nat) : Int) + y8.1)) ≤ (Go.IntKind.wrap Go.IntKind.i64 ((((List.length x.1) : Nat) : Int) + y8.1)))) = true) then (if ((decide (((Go.IntKind.wrap Go.IntKind.i64 ((((List.length x.1) : Nat) : Int) + y8.1)) * (24 : Int)) ≤ (281474976710656 : Int))) = true) then (loopP (X := (Int × ((List (List ByteArray)) × ((List ((List ByteArray) × Nat)) × (Bool × Unit))))) (R := (((List ((List ByteArray) × Nat)) × Nat) × Unit)) (P.l_toStringSS_b9 k) k ((0 : Int) , (x.1 , ((look (List.replicate (Int.toNat (Go.IntKind.wrap Go.IntKind.i64 ((((List.length x.1) : Nat) : Int) + y8.1))) (([] : List ByteArray) , 0)) (if (true = true) then none
 else (some (0 , (Int.toNat (Go.IntKind.wrap Go.IntKind.i64 ((((List.length x.1) : Nat) : Int) + y8.1))))))) , (x.2.1 , ())))))
 else none)
 else none)
 else none))))
def okR (xs : List (List ByteArray)) : Prop := xs.length ≤ 1000000 ∧ ∀ x ∈ xs, x.length ≤ 1000000
def spareR : List ByteArray × Nat := ([spare], 1)
/-- Rows, each with what is laid behind it. -/
def tos2 (bare : Bool) (xs : List (List ByteArray)) : List (List ByteArray × Nat) × Nat := if bare = true ∧ xs = [] then ([], 0) else (xs.map (tos spare bare) ++ List.replicate (rb xs.length).toNat spareR, xs.length)
theorem tos2_take (bare : Bool) (xs : List (List ByteArray)) : ((tos2 bare xs).1.take (tos2 bare xs).2).map (fun y => (y.1.take y.2).map (fun z => z)) = xs := by
  unfold tos2
  split
  · rename_i h; rw [h.2]; rfl
  · simp only
    rw [List.take_append_of_le_length (by simp), List.take_of_length_le (by simp), List.map_map]
    have : ((fun y : List ByteArray × Nat => (y.1.take y.2).map (fun z => z)) ∘ tos spare bare) = id := by
      funext y
      simp [tos_take]
    rw [this, List.map_id]
open Classical in
def S.l_toStringSS (x : ((List (List ByteArray)) × (Bool × Unit))) : (Option (((List ((List ByteArray) × Nat)) × Nat) × Unit)) := if okR x.1 then some (tos2 x.2.1 x.1, ()) else none
theorem toStringSS_b5 (k0 : Nat) (xs : List (List ByteArray)) (ys : List (List ByteArray × Nat)) (m n k : Nat) (h : n = xs.length) (hy : ys.length = n) (hl : n ≤ 1000000) (hm : m ≤ n + 1) (hk : m < k) :
    loopP (P.l_toStringSS_b5 k0) k ((n : Int), ys ++ List.replicate m ([], 0), xs, ()) = some ((ys ++ List.replicate m spareR, n), ()) := by
  have key := loop_up0 (b := P.l_toStringSS_b5 k0) (n := m) (st := fun i => (((n + i : Nat) : Int), (ys ++ List.replicate i spareR) ++ List.replicate (m - i) ([], 0), xs, ())) (F := fun i => some ((ys ++ List.replicate m spareR, n), ())) (fun i g hi hg => by
    unfold P.l_toStringSS_b5
    dsimp only [vlen, look] at hg ⊢
    have hlen : ((ys ++ List.replicate i spareR) ++ List.replicate (m - i) ([], 0)).length = n + m := by simp; omega
    simp only [hlen]
    have e1 : ((n + i : Nat) : Int) < ((n + m : Nat) : Int) := by omega
    have e2 : (0 : Int) ≤ ((n + i : Nat) : Int) := by omega
    simp only [e1, e2, decide_true, if_true]
    rw [wr (by omega) (by omega), ← hg]
    congr 1
    have e3 : m - i = (m - (i + 1)) + 1 := by omega
    have e4 : (0 + ((n + i : Nat) : Int).toNat) = (ys ++ List.replicate i spareR).length := by rw [List.length_append, List.length_replicate]; omega
    rw [e3, e4, set_fill]
    simp only [List.replicate_succ', ← List.append_assoc, spareR, spare, List.drop_zero]
    rfl) (fun g => by
    unfold P.l_toStringSS_b5
    dsimp only [vlen, look]
    have hlen : ((ys ++ List.replicate m spareR) ++ List.replicate (m - m) ([], 0)).length = n + m := by simp; omega
    simp only [hlen]
    have e1 : ¬ ((n + m : Nat) : Int) < ((n + m : Nat) : Int) := by omega
    have e2 : (0 : Int) ≤ (xs.length : Int) := by omega
    have e3 : (xs.length : Int) + 0 ≤ ((n + m : Nat) : Int) := by omega
    simp only [e1, e2, e3, decide_true, decide_false, if_true, Bool.false_eq_true, if_false]
    simp [h]) hk
  simpa using key
theorem toStringSS_b1 (k0 : Nat) (bare : Bool) (xs : List (List ByteArray)) (m k : Nat) (hl : okR xs) (hm : m ≤ xs.length + 1) (hk0 : m < k0) (hk : xs.length < k) :
    loopP (P.l_toStringSS_b1 k0) k ((0 : Int), xs, List.replicate (xs.length + m) ([], 0), bare, ()) = some ((xs.map (tos spare bare) ++ List.replicate m spareR, xs.length), ()) := by
  obtain ⟨hl, hr⟩ := hl
  have key := loop_up0 (b := P.l_toStringSS_b1 k0) (n := xs.length) (st := fun i => ((i : Int), xs, (xs.take i).map (tos spare bare) ++ List.replicate (xs.length - i + m) ([], 0), bare, ())) (F := fun i => some ((xs.map (tos spare bare) ++ List.replicate m spareR, xs.length), ())) (fun i g hi hg => by
    unfold P.l_toStringSS_b1
    dsimp only [vlen, look] at hg ⊢
    have hlen : ((xs.take i).map (tos spare bare) ++ List.replicate (xs.length - i + m) ([], 0)).length = xs.length + m := by simp; omega
    simp only [hlen]
    have e1 : (i : Int) < (xs.length : Int) := by omega
    have e1' : (i : Int) < ((xs.length + m : Nat) : Int) := by omega
    have e2 : (0 : Int) ≤ (i : Int) := by omega
    have es : S.l_toStringS (xs[i], bare, ()) = some (tos spare bare xs[i], ()) := by simp [S.l_toStringS, hr xs[i] (List.getElem_mem hi)]
    simp only [e1, e1', e2, decide_true, if_true]
    rw [wr (by omega) (by omega), getD_cast xs i _ hi, es, Option.bind_some, ← hg]
    congr 1
    have e3 : xs.length - i + m = (xs.length - (i + 1) + m) + 1 := by omega
    have e4 : (0 + (i : Int).toNat) = ((xs.take i).map (tos spare bare)).length := by simp; omega
    rw [e3, e4, set_fill]
    have e5 : (xs.take (i + 1)).map (tos spare bare) = (xs.take i).map (tos spare bare) ++ [tos spare bare xs[i]] := by rw [← List.take_append_getElem hi, List.map_append]; rfl
    rw [e5]
    rfl) (fun g => by
    unfold P.l_toStringSS_b1
    dsimp only [vlen, look]
    have e1 : ¬ (xs.length : Int) < (xs.length : Int) := by omega
    simp only [e1, decide_false, Bool.false_eq_true, if_false]
    have := toStringSS_b5 k0 xs (xs.map (tos spare bare)) m xs.length k0 rfl (by simp) hl hm hk0
    simpa using this) hk
  simpa using key
theorem S.l_toStringSS_ok (x : ((List (List ByteArray)) × (Bool × Unit))) (r : _) (h : S.l_toStringSS x = some r) : ∃ k, P.l_toStringSS k x = some r := by
  obtain ⟨xs, bare, u⟩ := x
  unfold S.l_toStringSS at h
  dsimp only at h
  split at h
  case isFalse => cases h
  rename_i hl
  have hl1 := hl.1
  cases h
  refine ⟨xs.length + 2, ?_⟩
  have hr := rb_le xs.length
  have go : (Option.bind (S.l_roomBehind ((((List.length xs) : Nat) : Int) , ())) (fun (y0 : (Int × Unit)) => (if ((decide ((0 : Int) ≤ (Go.IntKind.wrap Go.IntKind.i64 ((((List.length xs) : Nat) : Int) + y0.1)))) = true) then (if ((decide ((Go.IntKind.wrap Go.IntKind.i64 ((((List.length xs) : Nat) : Int) + y0.1)) ≤ (Go.IntKind.wrap Go.IntKind.i64 ((((List.length xs) : Nat) : Int) + y0.1)))) = true) then (if ((decide (((Go.IntKind.wrap Go.IntKind.i64 ((((List.length xs) : Nat) : Int) + y0.1)) * (24 : Int)) ≤ (281474976710656 : Int))) = true) then (loopP (X := (Int × ((List (List ByteArray)) × ((List ((List ByteArray) × Nat)) × (Bool × Unit))))) (R := (((List ((List ByteArray) × Nat)) × Nat) × Unit)) (P.l_toStringSS_b1 (xs.length + 2)) (xs.length + 2) ((0 : Int) , (xs , ((look (List.replicate (Int.toNat (Go.IntKind.wrap Go.IntKind.i64 ((((List.length xs) : Nat) : Int) + y0.1))) (([] : List ByteArray) , 0)) (if (true = true) then none
 else (some (0 , (Int.toNat (Go.IntKind.wrap Go.IntKind.i64 ((((List.length xs) : Nat) : Int) + y0.1))))))) , (bare , ())))))
 else none)
 else none)
 else none))) = some ((xs.map (tos spare bare) ++ List.replicate (rb xs.length).toNat spareR, xs.length), ()) := by
    have e0 : S.l_roomBehind ((xs.length : Int), ()) = some (rb xs.length, ()) := by
      unfold S.l_roomBehind P.l_roomBehind rb
      simp only [beq_iff_eq]
      split
      · rfl
      · split <;> rfl
    rw [e0, Option.bind_some]
    dsimp only [look]
    rw [wr (by omega) (by omega)]
    have e1 : (0 : Int) ≤ (xs.length : Int) + rb xs.length := by omega
    have e2 : (xs.length : Int) + rb xs.length ≤ (xs.length : Int) + rb xs.length := by omega
    have e3 : ((xs.length : Int) + rb xs.length) * 24 ≤ 281474976710656 := by omega
    simp only [e1, e2, e3, decide_true, if_true]
    have e4 : ((xs.length : Int) + rb xs.length).toNat = xs.length + (rb xs.length).toNat := by omega
    rw [e4]
    exact toStringSS_b1 _ bare xs _ _ hl (by omega) (by omega) (by omega)
  unfold P.l_toStringSS tos2
  dsimp only
  cases bare with
  | true =>
    simp only [if_true]
    by_cases hx : xs = []
    · subst hx; rfl
    · have hx' : ¬ ((((xs.length : Nat) : Int) == 0) = true) := by
        simp [hx]
      rw [if_neg hx', if_neg (by simp [hx])]
      exact go
  | false =>
    simp only [Bool.false_eq_true, if_false, false_and]
    exact go
def P.l_toChain (k : Nat) (x : ((List (List ByteArray)) × (Bool × Unit))) : (Option (((List ((List ByteArray) × Nat)) × Nat) × Unit)) :=
 (Option.bind (S.l_toStringSS (x.1 , (x.2.1 , ()))) (fun (y0 : (((List ((List ByteArray) × Nat)) × Nat) × Unit)) => (some ((y0.1.1 , y0.1.2) , ()))))
def S.l_toChain (x : ((List (List ByteArray)) × (Bool × Unit))) : (Option (((List ((List ByteArray) × Nat)) × Nat) × Unit)) := P.l_toChain 0 x
theorem S.l_toChain_ok (x : ((List (List ByteArray)) × (Bool × Unit))) (r : _) (h : S.l_toChain x = some r) : ∃ k, P.l_toChain k x = some r := ⟨0, h⟩
abbrev P.l_eqStringS_b0  (x1 : (Int × ((List ByteArray) × ((List ByteArray) × Unit)))) (g2 : (Int × ((List ByteArray) × ((List ByteArray) × Unit))) → Option (Bool × Unit)) : Option (Bool × Unit) :=
 (if ((decide (x1.1 < (((List.length x1.2.1) : Nat) : Int))) = true) then (if ((decide ((0 : Int) ≤ x1.1)) = true) then (if ((decide (x1.1 < (((List.length x1.2.1) : Nat) : Int))) = true) then (if ((decide ((0 : Int) ≤ x1.1)) = true) then (if ((decide (x1.1 < (((List.length x1.2.2.1) : Nat) : Int))) = true) then (if ((!((ByteArray.toList (List.getD x1.2.1 (Int.toNat x1.1) (bs []))) == (ByteArray.toList (List.getD x1.2.2.1 (Int.toNat x1.1) (bs []))))) = true) then (some (false , ()))
 else (g2 ((Go.IntKind.wrap Go.IntKind.i64 (x1.1 + (1 : Int))) , (x1.2.1 , (x1.2.2.1 , ())))))
 else none)
 else none)
 else none)
 else none)
 else (some (true , ())))
def P.l_eqStringS (k : Nat) (x : ((List ByteArray) × ((List ByteArray) × Unit))) : (Option (Bool × Unit)) :=
 (if (((((List.length x.1) : Nat) : Int) != (((List.length x.2.1) : Nat) : Int)) = true) then (some (false , ()))
 else (loopP (X := (Int × ((List ByteArray) × ((List ByteArray) × Unit)))) (R := (Bool × Unit)) (P.l_eqStringS_b0 ) k ((0 : Int) , (x.1 , (x.2.1 , ())))))
def S.l_eqStringS (x : ((List ByteArray) × ((List ByteArray) × Unit))) : (Option (Bool × Unit)) := if x.1.length ≤ 9223372036854775807 then some (eqTexts x.1 x.2.1, ()) else none
theorem S.l_eqStringS_ok (x : ((List ByteArray) × ((List ByteArray) × Unit))) (r : _) (h : S.l_eqStringS x = some r) : ∃ k, P.l_eqStringS k x = some r := by
  obtain ⟨xs, ys, u⟩ := x
  unfold S.l_eqStringS at h
  dsimp only at h
  split at h
  case isFalse => cases h
  rename_i hc
  cases h
  refine ⟨xs.length + 1, ?_⟩
  unfold P.l_eqStringS
  dsimp only
  by_cases hl : xs.length = ys.length
  · have e0 : ((xs.length : Int) != (ys.length : Int)) = false := by simp [hl]
    rw [if_neg (by rw [e0]; simp)]
    have := loop_up0 (b := P.l_eqStringS_b0) (n := xs.length) (st := fun i => ((i : Int), xs, ys, ())) (F := fun i => some (eqTexts (xs.drop i) (ys.drop i), ())) (fun i g hi hg => by
      have hy : i < ys.length := by omega
      unfold P.l_eqStringS_b0
      dsimp only at hg ⊢
      have e1 : (i : Int) < (xs.length : Int) := by omega
      have e1' : (i : Int) < (ys.length : Int) := by omega
      have e2 : (0 : Int) ≤ (i : Int) := by omega
      simp only [e1, e1', e2, decide_true, if_true]
      rw [getD_cast xs i _ hi, getD_cast ys i _ hy, wr (x := (i : Int) + 1) (by omega) (by omega), eqTexts_drop hi hy]
      by_cases hq : (xs[i].toList == ys[i].toList) = true
      · simp only [hq, Bool.not_true, Bool.false_eq_true, if_false, Bool.true_and]
        exact hg
      · have hq' : (xs[i].toList == ys[i].toList) = false := by simpa using hq
        simp only [hq', Bool.not_false, if_true, Bool.false_and]) (fun g => by
      unfold P.l_eqStringS_b0
      have e1 : ¬ ((xs.length : Int) < (xs.length : Int)) := by omega
      simp only [e1, decide_false, Bool.false_eq_true, if_false]
      rw [List.drop_length, hl, List.drop_length]
      rfl) (Nat.lt_succ_self _)
    simpa using this
  · rw [if_pos (by simp; omega), eqTexts_len hl]
def P.l_intactStringS (k : Nat) (x : (((List ByteArray) × Nat) × (((List ByteArray) × Nat) × Unit))) : (Option (Bool × Unit)) :=
 (Option.bind (S.l_roomBehind (((x.2.1.2 : Nat) : Int) , ())) (fun (y0 : (Int × Unit)) => (if ((((x.1.2 : Nat) : Int) == ((x.2.1.2 : Nat) : Int)) = true) then (if ((decide ((0 : Int) ≤ (Go.IntKind.wrap Go.IntKind.i64 (((x.2.1.2 : Nat) : Int) + y0.1)))) = true) then (if ((decide ((Go.IntKind.wrap Go.IntKind.i64 (((x.2.1.2 : Nat) : Int) + y0.1)) ≤ (((List.length x.1.1) : Nat) : Int))) = true) then (if ((decide ((0 : Int) ≤ (Go.IntKind.wrap Go.IntKind.i64 (((x.2.1.2 : Nat) : Int) + y0.1)))) = true) then (if ((decide ((0 : Int) ≤ (Go.IntKind.wrap Go.IntKind.i64 (((x.2.1.2 : Nat) : Int) + y0.1)))) = true) then (if ((decide ((Go.IntKind.wrap Go.IntKind.i64 (((x.2.1.2 : Nat) : Int) + y0.1)) ≤ (((List.length x.2.1.1) : Nat) : Int))) = true) then (if ((decide ((0 : Int) ≤ (Go.IntKind.wrap Go.IntKind.i64 (((x.2.1.2 : Nat) : Int) + y0.1)))) = true) then (Option.bind (S.l_eqStringS ((seen x.1.1 (0 : Nat) ((Int.toNat (Go.IntKind.wrap Go.IntKind.i64 (((x.2.1.2 : Nat) : Int) + y0.1))) - (0 : Nat))) , ((seen x.2.1.1 (0 : Nat) ((Int.toNat (Go.IntKind.wrap Go.IntKind.i64 (((x.2.1.2 : Nat) : Int) + y0.1))) - (0 : Nat))) , ()))) (fun (y1 : (Bool × Unit)) => (some (y1.1 , ()))))
 else none)
 else none)
 else none)
 else none)
 else none)
 else none)
 else (some (false , ())))))
def S.l_intactStringS (x : (((List ByteArray) × Nat) × (((List ByteArray) × Nat) × Unit))) : (Option (Bool × Unit)) := P.l_intactStringS 0 x
theorem S.l_intactStringS_ok (x : (((List ByteArray) × Nat) × (((List ByteArray) × Nat) × Unit))) (r : _) (h : S.l_intactStringS x = some r) : ∃ k, P.l_intactStringS k x = some r := ⟨0, h⟩
theorem room_eq (n : Nat) : S.l_roomBehind ((n : Int), ()) = some (rb n, ()) := by
  unfold S.l_roomBehind P.l_roomBehind rb
  simp only [beq_iff_eq]
  split
  · rfl
  · split <;> rfl
theorem eqStringS_eq (xs ys : List ByteArray) (h : xs.length ≤ 9223372036854775807) : S.l_eqStringS (xs, ys, ()) = some (eqTexts xs ys, ()) := by simp [S.l_eqStringS, h]
theorem toStringS_eq (xs : List ByteArray) (b : Bool) (h : xs.length ≤ 1000000) : S.l_toStringS (xs, b, ()) = some (tos spare b xs, ()) := by simp [S.l_toStringS, h]
theorem tos_false (xs : List ByteArray) : tos spare false xs = (xs ++ List.replicate (rb xs.length).toNat spare, xs.length) := by simp [tos]
theorem intactStringS_eq (xs : List ByteArray) (h : xs.length ≤ 1000000) : S.l_intactStringS (((tos spare false xs).1, (tos spare false xs).2), ((tos spare false xs).1, (tos spare false xs).2), ()) = some (true, ()) := by
  rw [tos_false]
  have hr := rb_le xs.length
  unfold S.l_intactStringS P.l_intactStringS
  dsimp only
  rw [room_eq, Option.bind_some, wr (by omega) (by omega)]
  have hl : ((xs ++ List.replicate (rb xs.length).toNat spare).length : Int) = (xs.length : Int) + rb xs.length := by
    rw [List.length_append, List.length_replicate]
    omega
  have e1 : (0 : Int) ≤ (xs.length : Int) + rb xs.length := by omega
  have e2 : (xs.length : Int) + rb xs.length ≤ (xs.length : Int) + rb xs.length := by omega
  simp only [hl, e1, e2, decide_true, if_true, beq_self_eq_true]
  rw [eqStringS_eq _ _ (by simp [seen]; omega), eqTexts_refl, Option.bind_some]
abbrev P.l_eqStringSS_b0  (x1 : (Int × ((List (List ByteArray)) × ((List (List ByteArray)) × Unit)))) (g2 : (Int × ((List (List ByteArray)) × ((List (List ByteArray)) × Unit))) → Option (Bool × Unit)) : Option (Bool × Unit) :=
 (if ((decide (x1.1 < (((List.length x1.2.1) : Nat) : Int))) = true) then (if ((decide ((0 : Int) ≤ x1.1)) = true) then (if ((decide (x1.1 < (((List.length x1.2.1) : Nat) : Int))) = true) then (if ((decide ((0 : Int) ≤ x1.1)) = true) then (if ((decide (x1.1 < (((List.length x1.2.2.1) : Nat) : Int))) = true) then (Option.bind (S.l_eqStringS ((List.getD x1.2.1 (Int.toNat x1.1) ([] : List ByteArray)) , ((List.getD x1.2.2.1 (Int.toNat x1.1) ([] : List ByteArray)) , ()))) (fun (y3 : (Bool × Unit)) => (if ((!y3.1) = true) then (some (false , ()))
 else (g2 ((Go.IntKind.wrap Go.IntKind.i64 (x1.1 + (1 : Int))) , (x1.2.1 , (x1.2.2.1 , ())))))))
 else none)
 else none)
 else none)
 else none)
 else (some (true , ())))
def P.l_eqStringSS (k : Nat) (x : ((List (List ByteArray)) × ((List (List ByteArray)) × Unit))) : (Option (Bool × Unit)) :=
 (if (((((List.length x.1) : Nat) : Int) != (((List.length x.2.1) : Nat) : Int)) = true) then (some (false , ()))
 else (loopP (X := (Int × ((List (List ByteArray)) × ((List (List ByteArray)) × Unit)))) (R := (Bool × Unit)) (P.l_eqStringSS_b0 ) k ((0 : Int) , (x.1 , (x.2.1 , ())))))
def eqTT (xs ys : List (List ByteArray)) : Bool := xs.map (fun r => r.map ByteArray.toList) == ys.map (fun r => r.map ByteArray.toList)
theorem eqTT_refl (xs : List (List ByteArray)) : eqTT xs xs = true := by simp [eqTT]
theorem eqTT_len {xs ys : List (List ByteArray)} (h : xs.length ≠ ys.length) : eqTT xs ys = false := by
  unfold eqTT
  rw [beq_eq_false_iff_ne]
  intro e
  have := congrArg List.length e
  simp at this
  exact h this
theorem eqTT_drop {xs ys : List (List ByteArray)} {i : Nat} (hx : i < xs.length) (hy : i < ys.length) : eqTT (xs.drop i) (ys.drop i) = (eqTexts xs[i] ys[i] && eqTT (xs.drop (i + 1)) (ys.drop (i + 1))) := by
  rw [List.drop_eq_getElem_cons hx, List.drop_eq_getElem_cons hy]
  rfl
open Classical in
def S.l_eqStringSS (x : ((List (List ByteArray)) × ((List (List ByteArray)) × Unit))) : (Option (Bool × Unit)) := if x.1.length ≤ 9223372036854775807 ∧ ∀ r ∈ x.1, r.length ≤ 9223372036854775807 then some (eqTT x.1 x.2.1, ()) else none
theorem S.l_eqStringSS_ok (x : ((List (List ByteArray)) × ((List (List ByteArray)) × Unit))) (r : _) (h : S.l_eqStringSS x = some r) : ∃ k, P.l_eqStringSS k x = some r := by
  obtain ⟨xs, ys, u⟩ := x
  unfold S.l_eqStringSS at h
  dsimp only at h
  split at h
  case isFalse => cases h
  rename_i hc
  obtain ⟨hc, hr⟩ := hc
  cases h
  refine ⟨xs.length + 1, ?_⟩
  unfold P.l_eqStringSS
  dsimp only
  by_cases hl : xs.length = ys.length
  · have e0 : ((xs.length : Int) != (ys.length : Int)) = false := by simp [hl]
    rw [if_neg (by rw [e0]; simp)]
    have := loop_up0 (b := P.l_eqStringSS_b0) (n := xs.length) (st := fun i => ((i : Int), xs, ys, ())) (F := fun i => some (eqTT (xs.drop i) (ys.drop i), ())) (fun i g hi hg => by
      have hy : i < ys.length := by omega
      unfold P.l_eqStringSS_b0
      dsimp only at hg ⊢
      have e1 : (i : Int) < (xs.length : Int) := by omega
      have e1' : (i : Int) < (ys.length : Int) := by omega
      have e2 : (0 : Int) ≤ (i : Int) := by omega
      have es : S.l_eqStringS (xs[i], ys[i], ()) = some (eqTexts xs[i] ys[i], ()) := by simp [S.l_eqStringS, hr xs[i] (List.getElem_mem hi)]
      simp only [e1, e1', e2, decide_true, if_true]
      rw [getD_cast xs i _ hi, getD_cast ys i _ hy, wr (x := (i : Int) + 1) (by omega) (by omega), eqTT_drop hi hy, es, Option.bind_some]
      cases hq : eqTexts xs[i] ys[i]
      · simp
      · simp only [Bool.not_true, Bool.false_eq_true, if_false, Bool.true_and]
        exact hg) (fun g => by
      unfold P.l_eqStringSS_b0
      have e1 : ¬ ((xs.length : Int) < (xs.length : Int)) := by omega
      simp only [e1, decide_false, Bool.false_eq_true, if_false]
      rw [List.drop_length, hl, List.drop_length]
      rfl) (Nat.lt_succ_self _)
    simpa using this
  · rw [if_pos (by simp; omega), eqTT_len hl]
abbrev P.l_intactStringSS_b1  (x2 : (Int × (((List ((List ByteArray) × Nat)) × Nat) × (((List ((List ByteArray) × Nat)) × Nat) × (Int × Unit))))) (g3 : (Int × (((List ((List ByteArray) × Nat)) × Nat) × (((List ((List ByteArray) × Nat)) × Nat) × (Int × Unit)))) → Option (Bool × Unit)) : Option (Bool × Unit) :=
 (if ((decide (x2.1 < ((x2.2.1.2 : Nat) : Int))) = true) then (if ((decide ((0 : Int) ≤ x2.1)) = true) then (if ((decide (x2.1 < ((x2.2.2.1.2 : Nat) : Int))) = true) then (if ((decide ((0 : Int) ≤ x2.1)) = true) then (if ((decide (x2.1 < ((x2.2.1.2 : Nat) : Int))) = true) then (Option.bind (S.l_intactStringS (((List.getD x2.2.2.1.1 (Int.toNat x2.1) (([] : List ByteArray) , 0)).1 , (List.getD x2.2.2.1.1 (Int.toNat x2.1) (([] : List ByteArray) , 0)).2) , (((List.getD x2.2.1.1 (Int.toNat x2.1) (([] : List ByteArray) , 0)).1 , (List.getD x2.2.1.1 (Int.toNat x2.1) (([] : List ByteArray) , 0)).2) , ()))) (fun (y4 : (Bool × Unit)) => (if ((!y4.1) = true) then (some (false , ()))
 else (g3 ((Go.IntKind.wrap Go.IntKind.i64 (x2.1 + (1 : Int))) , ((x2.2.1.1 , x2.2.1.2) , ((x2.2.2.1.1 , x2.2.2.1.2) , (x2.2.2.2.1 , ()))))))))
 else none)
 else none)
 else none)
 else none)
 else (if ((decide ((0 : Int) ≤ x2.2.2.2.1)) = true) then (if ((decide (x2.2.2.2.1 ≤ (((List.length x2.2.2.1.1) : Nat) : Int))) = true) then (if ((decide ((0 : Int) ≤ ((x2.2.1.2 : Nat) : Int))) = true) then (if ((decide (((x2.2.1.2 : Nat) : Int) ≤ x2.2.2.2.1)) = true) then (if ((decide ((0 : Int) ≤ x2.2.2.2.1)) = true) then (if ((decide (x2.2.2.2.1 ≤ (((List.length x2.2.1.1) : Nat) : Int))) = true) then (if ((decide ((0 : Int) ≤ ((x2.2.1.2 : Nat) : Int))) = true) then (if ((decide (((x2.2.1.2 : Nat) : Int) ≤ x2.2.2.2.1)) = true) then (Option.bind (S.l_eqStringSS ((List.map (fun (y5 : ((List ByteArray) × Nat)) => (List.map (fun (y6 : ByteArray) => y6) (List.take y5.2 y5.1))) (seen x2.2.2.1.1 (Int.toNat ((x2.2.1.2 : Nat) : Int)) ((Int.toNat x2.2.2.2.1) - (Int.toNat ((x2.2.1.2 : Nat) : Int))))) , ((List.map (fun (y7 : ((List ByteArray) × Nat)) => (List.map (fun (y8 : ByteArray) => y8) (List.take y7.2 y7.1))) (seen x2.2.1.1 (Int.toNat ((x2.2.1.2 : Nat) : Int)) ((Int.toNat x2.2.2.2.1) - (Int.toNat ((x2.2.1.2 : Nat) : Int))))) , ()))) (fun (y9 : (Bool × Unit)) => (some (y9.1 , ()))))
 else none)
 else none)
 else none)
 else none)
 else none)
 else none)
 else none)
 else none))
def P.l_intactStringSS (k : Nat) (x : (((List ((List ByteArray) × Nat)) × Nat) × (((List ((List ByteArray) × Nat)) × Nat) × Unit))) : (Option (Bool × Unit)) :=
 (Option.bind (S.l_roomBehind (((x.2.1.2 : Nat) : Int) , ())) (fun (y0 : (Int × Unit)) => (if ((((x.1.2 : Nat) : Int) != ((x.2.1.2 : Nat) : Int)) = true) then (some (false , ()))
 else (loopP (X := (Int × (((List ((List ByteArray) × Nat)) × Nat) × (((List ((List ByteArray) × Nat)) × Nat) × (Int × Unit))))) (R := (Bool × Unit)) (P.l_intactStringSS_b1 ) k ((0 : Int) , ((x.2.1.1 , x.2.1.2) , ((x.1.1 , x.1.2) , ((Go.IntKind.wrap Go.IntKind.i64 (((x.2.1.2 : Nat) : Int) + y0.1)) , ()))))))))
open Classical in
def S.l_intactStringSS (x : (((List ((List ByteArray) × Nat)) × Nat) × (((List ((List ByteArray) × Nat)) × Nat) × Unit))) : (Option (Bool × Unit)) := if ∃ xs, okR xs ∧ x = (tos2 false xs, tos2 false xs, ()) then some (true, ()) else none
theorem tos2_false (xs : List (List ByteArray)) : tos2 false xs = (xs.map (tos spare false) ++ List.replicate (rb xs.length).toNat spareR, xs.length) := by simp [tos2]
theorem S.l_intactStringSS_ok (x : (((List ((List ByteArray) × Nat)) × Nat) × (((List ((List ByteArray) × Nat)) × Nat) × Unit))) (r : _) (h : S.l_intactStringSS x = some r) : ∃ k, P.l_intactStringSS k x = some r := by
  unfold S.l_intactStringSS at h
  split at h
  case isFalse => cases h
  rename_i hc
  cases h
  obtain ⟨xs, ⟨hl, hr⟩, rfl⟩ := hc
  refine ⟨xs.length + 1, ?_⟩
  have hb := rb_le xs.length
  rw [tos2_false]
  unfold P.l_intactStringSS
  dsimp only
  rw [room_eq, Option.bind_some, wr (by omega) (by omega)]
  rw [if_neg (by simp)]
  generalize hA : xs.map (tos spare false) ++ List.replicate (rb xs.length).toNat spareR = A
  have hAl : (A.length : Int) = (xs.length : Int) + rb xs.length := by
    rw [← hA, List.length_append, List.length_map, List.length_replicate]
    omega
  have hget : ∀ i (hi : i < xs.length), A.getD i ([], 0) = tos spare false xs[i] := by
    intro i hi
    rw [← hA, List.getD_eq_getElem?_getD, List.getElem?_append_left (by simpa using hi)]
    simp [hi]
  have := loop_up0 (k := xs.length + 1) (b := P.l_intactStringSS_b1) (n := xs.length) (st := fun i => ((i : Int), (A, xs.length), (A, xs.length), (xs.length : Int) + rb xs.length, ())) (F := fun i => some (true, ())) (fun i g hi hg => by
    unfold P.l_intactStringSS_b1
    dsimp only at hg ⊢
    have e1 : (i : Int) < (xs.length : Int) := by omega
    have e2 : (0 : Int) ≤ (i : Int) := by omega
    simp only [e1, e2, decide_true, if_true, Int.toNat_natCast, hget i hi]
    rw [intactStringS_eq xs[i] (hr _ (List.getElem_mem hi)), wr (x := (i : Int) + 1) (by omega) (by omega), Option.bind_some]
    simp only [Bool.not_true, Bool.false_eq_true, if_false]
    exact hg) (fun g => by
    unfold P.l_intactStringSS_b1
    dsimp only
    have e1 : ¬ ((xs.length : Int) < (xs.length : Int)) := by omega
    have e2 : (0 : Int) ≤ (xs.length : Int) + rb xs.length := by omega
    have e3 : (xs.length : Int) + rb xs.length ≤ (xs.length : Int) + rb xs.length := by omega
    have e4 : (0 : Int) ≤ (xs.length : Int) := by omega
    have e5 : (xs.length : Int) ≤ (xs.length : Int) + rb xs.length := by omega
    simp only [e1, hAl, e2, e3, e4, e5, decide_true, decide_false, if_true, Bool.false_eq_true, if_false]
    have hs : seen A (Int.toNat (xs.length : Int)) (Int.toNat ((xs.length : Int) + rb xs.length) - Int.toNat (xs.length : Int)) = List.replicate (rb xs.length).toNat spareR := by
      unfold seen
      rw [← hA]
      have : Int.toNat (xs.length : Int) = (xs.map (tos spare false)).length := by simp
      rw [this, List.drop_left]
      apply List.take_of_length_le
      simp
      omega
    rw [hs]
    unfold S.l_eqStringSS
    rw [if_pos, eqTT_refl]
    · rfl
    · refine ⟨by simp; omega, fun r hr => ?_⟩
      simp only [List.map_replicate, List.mem_replicate] at hr
      rw [hr.2]
      simp [spareR]) (by omega)
  exact this
def P.l_intactChain (k : Nat) (x : (((List ((List ByteArray) × Nat)) × Nat) × (((List ((List ByteArray) × Nat)) × Nat) × Unit))) : (Option (Bool × Unit)) :=
 (Option.bind (S.l_intactStringSS ((x.1.1 , x.1.2) , ((x.2.1.1 , x.2.1.2) , ()))) (fun (y0 : (Bool × Unit)) => (if ((!y0.1) = true) then (some (false , ()))
 else (some (true , ())))))
def S.l_intactChain (x : (((List ((List ByteArray) × Nat)) × Nat) × (((List ((List ByteArray) × Nat)) × Nat) × Unit))) : (Option (Bool × Unit)) := P.l_intactChain 0 x
theorem S.l_intactChain_ok (x : (((List ((List ByteArray) × Nat)) × Nat) × (((List ((List ByteArray) × Nat)) × Nat) × Unit))) (r : _) (h : S.l_intactChain x = some r) : ∃ k, P.l_intactChain k x = some r := ⟨0, h⟩
abbrev P.s_l03Same_b3 (g2 : ((Int × (Int × ((List (List ByteArray)) × ((List (List ByteArray)) × Unit)))) → (Option (Bool × Unit)))) (x4 : (Int × (Int × ((List (List ByteArray)) × (Int × ((List (List ByteArray)) × (Int × (Int × Unit)))))))) (g5 : (Int × (Int × ((List (List ByteArray)) × (Int × ((List (List ByteArray)) × (Int × (Int × Unit))))))) → Option (Bool × Unit)) : Option (Bool × Unit) :=
 (if ((decide (x4.1 < x4.2.1)) = true) then (if ((decide ((0 : Int) ≤ x4.2.2.2.1)) = true) then (if ((decide (x4.2.2.2.1 < (((List.length x4.2.2.1) : Nat) : Int))) = true) then (if ((decide ((0 : Int) ≤ x4.1)) = true) then (if ((decide (x4.1 < (((List.length (List.getD x4.2.2.1 (Int.toNat x4.2.2.2.1) ([] : List ByteArray))) : Nat) : Int))) = true) then (if ((decide ((0 : Int) ≤ x4.2.2.2.1)) = true) then (if ((decide (x4.2.2.2.1 < (((List.length x4.2.2.2.2.1) : Nat) : Int))) = true) then (if ((decide ((0 : Int) ≤ x4.1)) = true) then (if ((decide (x4.1 < (((List.length (List.getD x4.2.2.2.2.1 (Int.toNat x4.2.2.2.1) ([] : List ByteArray))) : Nat) : Int))) = true) then (if ((!((ByteArray.toList (List.getD (List.getD x4.2.2.1 (Int.toNat x4.2.2.2.1) ([] : List ByteArray)) (Int.toNat x4.1) (bs []))) == (ByteArray.toList (List.getD (List.getD x4.2.2.2.2.1 (Int.toNat x4.2.2.2.1) ([] : List ByteArray)) (Int.toNat x4.1) (bs []))))) = true) then (some (false , ()))
 else (g5 ((Go.IntKind.wrap Go.IntKind.i64 (x4.1 + (1 : Int))) , (x4.2.1 , (x4.2.2.1 , (x4.2.2.2.1 , (x4.2.2.2.2.1 , (x4.2.2.2.2.2.1 , (x4.2.2.2.2.2.2.1 , ())))))))))
 else none)
 else none)
 else none)
 else none)
 else none)
 else none)
 else none)
 else none)
 else (g2 ((Go.IntKind.wrap Go.IntKind.i64 (x4.2.2.2.2.2.1 + (1 : Int))) , (x4.2.2.2.2.2.2.1 , (x4.2.2.1 , (x4.2.2.2.2.1 , ()))))))
abbrev P.s_l03Same_b0 (k : Nat) (x1 : (Int × (Int × ((List (List ByteArray)) × ((List (List ByteArray)) × Unit))))) (g2 : (Int × (Int × ((List (List ByteArray)) × ((List (List ByteArray)) × Unit)))) → Option (Bool × Unit)) : Option (Bool × Unit) :=
 (if ((decide (x1.1 < x1.2.1)) = true) then (if ((decide ((0 : Int) ≤ x1.1)) = true) then (if ((decide (x1.1 < (((List.length x1.2.2.1) : Nat) : Int))) = true) then (if ((decide ((0 : Int) ≤ x1.1)) = true) then (if ((decide (x1.1 < (((List.length x1.2.2.2.1) : Nat) : Int))) = true) then (if (((((List.length (List.getD x1.2.2.1 (Int.toNat x1.1) ([] : List ByteArray))) : Nat) : Int) != (((List.length (List.getD x1.2.2.2.1 (Int.toNat x1.1) ([] : List ByteArray))) : Nat) : Int)) = true) then (some (false , ()))
 else (if ((decide ((0 : Int) ≤ x1.1)) = true) then (if ((decide (x1.1 < (((List.length x1.2.2.1) : Nat) : Int))) = true) then (loopP (X := (Int × (Int × ((List (List ByteArray)) × (Int × ((List (List ByteArray)) × (Int × (Int × Unit)))))))) (R := (Bool × Unit)) (P.s_l03Same_b3 g2) k ((0 : Int) , ((((List.length (List.getD x1.2.2.1 (Int.toNat x1.1) ([] : List ByteArray))) : Nat) : Int) , (x1.2.2.1 , (x1.1 , (x1.2.2.2.1 , (x1.1 , (x1.2.1 , ()))))))))
 else none)
 else none))
 else none)
 else none)
 else none)
 else none)
 else (some (true , ())))
def P.s_l03Same (k : Nat) (x : ((List (List ByteArray)) × ((List (List ByteArray)) × Unit))) : (Option (Bool × Unit)) :=
 (if (((((List.length x.1) : Nat) : Int) != (((List.length x.2.1) : Nat) : Int)) = true) then (some (false , ()))
 else (loopP (X := (Int × (Int × ((List (List ByteArray)) × ((List (List ByteArray)) × Unit))))) (R := (Bool × Unit)) (P.s_l03Same_b0 k) k ((0 : Int) , ((((List.length x.1) : Nat) : Int) , (x.1 , (x.2.1 , ()))))))
open Classical in
def S.s_l03Same (x : ((List (List ByteArray)) × ((List (List ByteArray)) × Unit))) : (Option (Bool × Unit)) := if okR x.1 then some (eqTT x.1 x.2.1, ()) else none
theorem l03Same_b3 (g2 : ((Int × (Int × ((List (List ByteArray)) × ((List (List ByteArray)) × Unit)))) → (Option (Bool × Unit)))) (xs ys : List (List ByteArray)) (i n : Nat) (hx : i < xs.length) (hy : i < ys.length) (hl : xs[i].length = ys[i].length) (hm : xs[i].length ≤ 1000000) (hi : i ≤ 1000000) {k : Nat} (hk : xs[i].length < k) :
    loopP (P.s_l03Same_b3 g2) k ((0 : Int), (xs[i].length : Int), xs, (i : Int), ys, (i : Int), (n : Int), ()) = (if eqTexts xs[i] ys[i] = true then g2 (((i + 1 : Nat) : Int), (n : Int), xs, ys, ()) else some (false, ())) := by
  have := loop_up0 (b := P.s_l03Same_b3 g2) (n := xs[i].length) (st := fun j => ((j : Int), (xs[i].length : Int), xs, (i : Int), ys, (i : Int), (n : Int), ())) (F := fun j => (if eqTexts (xs[i].drop j) (ys[i].drop j) = true then g2 (((i + 1 : Nat) : Int), (n : Int), xs, ys, ()) else some (false, ()))) (fun j g hj hg => by
    have hj' : j < ys[i].length := by omega
    unfold P.s_l03Same_b3
    dsimp only at hg ⊢
    rw [getD_cast xs i _ hx, getD_cast ys i _ hy, getD_cast xs[i] j _ hj, getD_cast ys[i] j _ hj']
    have e1 : (j : Int) < (xs[i].length : Int) := by omega
    have e2 : (0 : Int) ≤ (i : Int) := by omega
    have e3 : (i : Int) < (xs.length : Int) := by omega
    have e4 : (0 : Int) ≤ (j : Int) := by omega
    have e5 : (i : Int) < (ys.length : Int) := by omega
    have e6 : (j : Int) < (ys[i].length : Int) := by omega
    simp only [e1, e2, e3, e4, e5, e6, decide_true, if_true]
    rw [wr (x := (j : Int) + 1) (by omega) (by omega), eqTexts_drop hj hj']
    by_cases hq : (xs[i][j].toList == ys[i][j].toList) = true
    · simp only [hq, Bool.not_true, Bool.false_eq_true, if_false, Bool.true_and]
      exact hg
    · have hq' : (xs[i][j].toList == ys[i][j].toList) = false := by simpa using hq
      simp only [hq', Bool.not_false, if_true, Bool.false_and, Bool.false_eq_true, if_false]) (fun g => by
    unfold P.s_l03Same_b3
    have e1 : ¬ ((xs[i].length : Int) < (xs[i].length : Int)) := by omega
    simp only [e1, decide_false, Bool.false_eq_true, if_false]
    rw [wr (x := (i : Int) + 1) (by omega) (by omega), List.drop_length, hl, List.drop_length]
    rfl) hk
  simpa using this
theorem S.s_l03Same_ok (x : ((List (List ByteArray)) × ((List (List ByteArray)) × Unit))) (r : _) (h : S.s_l03Same x = some r) : ∃ k, P.s_l03Same k x = some r := by
  obtain ⟨xs, ys, u⟩ := x
  unfold S.s_l03Same at h
  dsimp only at h
  split at h
  case isFalse => cases h
  rename_i hc
  obtain ⟨hc, hr⟩ := hc
  cases h
  refine ⟨1000001, ?_⟩
  unfold P.s_l03Same
  dsimp only
  by_cases hl : xs.length = ys.length
  · have e0 : ((xs.length : Int) != (ys.length : Int)) = false := by simp [hl]
    rw [if_neg (by rw [e0]; simp)]
    have := loop_up0 (k := 1000001) (b := P.s_l03Same_b0 1000001) (n := xs.length) (st := fun i => ((i : Int), (xs.length : Int), xs, ys, ())) (F := fun i => some (eqTT (xs.drop i) (ys.drop i), ())) (fun i g hi hg => by
      have hy : i < ys.length := by omega
      unfold P.s_l03Same_b0
      dsimp only at hg ⊢
      rw [getD_cast xs i _ hi, getD_cast ys i _ hy]
      have e1 : (i : Int) < (xs.length : Int) := by omega
      have e1' : (i : Int) < (ys.length : Int) := by omega
      have e2 : (0 : Int) ≤ (i : Int) := by omega
      simp only [e1, e1', e2, decide_true, if_true]
      rw [eqTT_drop hi hy]
      by_cases hrl : xs[i].length = ys[i].length
      · have e0 : ((xs[i].length : Int) != (ys[i].length : Int)) = false := by simp [hrl]
        rw [if_neg (by rw [e0]; simp), l03Same_b3 g xs ys i xs.length hi hy hrl (hr _ (List.getElem_mem hi)) (by omega) (Nat.lt_succ_of_le (hr _ (List.getElem_mem hi)))]
        by_cases hq : eqTexts xs[i] ys[i] = true
        · rw [if_pos hq, hq, Bool.true_and]
          exact hg
        · rw [if_neg hq]
          have hq' : eqTexts xs[i] ys[i] = false := by simpa using hq
          rw [hq', Bool.false_and]
      · rw [if_pos (by simp; omega), eqTexts_len hrl, Bool.false_and]) (fun g => by
      unfold P.s_l03Same_b0
      have e1 : ¬ ((xs.length : Int) < (xs.length : Int)) := by omega
      simp only [e1, decide_false, Bool.false_eq_true, if_false]
      rw [List.drop_length, hl, List.drop_length]
      rfl) (by omega)
    simpa using this
  · rw [if_pos (by simp; omega), eqTT_len hl]
def P.s_SameChain (k : Nat) (x : ((List (List ByteArray)) × ((List (List ByteArray)) × Unit))) : (Option (Bool × Unit)) :=
 (Option.bind (S.s_l03Same (x.1 , (x.2.1 , ()))) (fun (y0 : (Bool × Unit)) => (some (y0.1 , ()))))
def S.s_SameChain (x : ((List (List ByteArray)) × ((List (List ByteArray)) × Unit))) : (Option (Bool × Unit)) := P.s_SameChain 0 x
theorem S.s_SameChain_ok (x : ((List (List ByteArray)) × ((List (List ByteArray)) × Unit))) (r : _) (h : S.s_SameChain x = some r) : ∃ k, P.s_SameChain k x = some r := ⟨0, h⟩
abbrev P.slices_Equal__string_string_b0  (x1 : (Int × (Int × ((List ByteArray) × ((List ByteArray) × Unit))))) (g2 : (Int × (Int × ((List ByteArray) × ((List ByteArray) × Unit)))) → Option (Bool × Unit)) : Option (Bool × Unit) :=
 (if ((decide (x1.1 < x1.2.1)) = true) then (if ((decide ((0 : Int) ≤ x1.1)) = true) then (if ((decide (x1.1 < (((List.length x1.2.2.1) : Nat) : Int))) = true) then (if ((decide ((0 : Int) ≤ x1.1)) = true) then (if ((decide (x1.1 < (((List.length x1.2.2.2.1) : Nat) : Int))) = true) then (if ((!((ByteArray.toList (List.getD x1.2.2.1 (Int.toNat x1.1) (bs []))) == (ByteArray.toList (List.getD x1.2.2.2.1 (Int.toNat x1.1) (bs []))))) = true) then (some (false , ()))
 else (g2 ((Go.IntKind.wrap Go.IntKind.i64 (x1.1 + (1 : Int))) , (x1.2.1 , (x1.2.2.1 , (x1.2.2.2.1 , ()))))))
 else none)
 else none)
 else none)
 else none)
 else (some (true , ())))
def P.slices_Equal__string_string (k : Nat) (x : ((List ByteArray) × ((List ByteArray) × Unit))) : (Option (Bool × Unit)) :=
 (if (((((List.length x.1) : Nat) : Int) != (((List.length x.2.1) : Nat) : Int)) = true) then (some (false , ()))
 else (loopP (X := (Int × (Int × ((List ByteArray) × ((List ByteArray) × Unit))))) (R := (Bool × Unit)) (P.slices_Equal__string_string_b0 ) k ((0 : Int) , ((((List.length x.1) : Nat) : Int) , (x.1 , (x.2.1 , ()))))))
def S.slices_Equal__string_string (x : ((List ByteArray) × ((List ByteArray) × Unit))) : (Option (Bool × Unit)) := if x.1.length ≤ 9223372036854775807 then some (eqTexts x.1 x.2.1, ()) else none
theorem S.slices_Equal__string_string_ok (x : ((List ByteArray) × ((List ByteArray) × Unit))) (r : _) (h : S.slices_Equal__string_string x = some r) : ∃ k, P.slices_Equal__string_string k x = some r := by
  obtain ⟨xs, ys, u⟩ := x
  unfold S.slices_Equal__string_string at h
  dsimp only at h
  split at h
  case isFalse => cases h
  rename_i hc
  cases h
  refine ⟨xs.length + 1, ?_⟩
  unfold P.slices_Equal__string_string
  dsimp only
  by_cases hl : xs.length = ys.length
  · have e0 : ((xs.length : Int) != (ys.length : Int)) = false := by simp [hl]
    rw [if_neg (by rw [e0]; simp)]
    have := loop_up0 (b := P.slices_Equal__string_string_b0) (n := xs.length) (st := fun i => ((i : Int), (xs.length : Int), xs, ys, ())) (F := fun i => some (eqTexts (xs.drop i) (ys.drop i), ())) (fun i g hi hg => by
      have hy : i < ys.length := by omega
      unfold P.slices_Equal__string_string_b0
      dsimp only at hg ⊢
      have e1 : (i : Int) < (xs.length : Int) := by omega
      have e1' : (i : Int) < (ys.length : Int) := by omega
      have e2 : (0 : Int) ≤ (i : Int) := by omega
      simp only [e1, e1', e2, decide_true, if_true]
      rw [getD_cast xs i _ hi, getD_cast ys i _ hy, wr (x := (i : Int) + 1) (by omega) (by omega), eqTexts_drop hi hy]
      by_cases hq : (xs[i].toList == ys[i].toList) = true
      · simp only [hq, Bool.not_true, Bool.false_eq_true, if_false, Bool.true_and]
        exact hg
      · have hq' : (xs[i].toList == ys[i].toList) = false := by simpa using hq
        simp only [hq', Bool.not_false, if_true, Bool.false_and]) (fun g => by
      unfold P.slices_Equal__string_string_b0
      have e1 : ¬ ((xs.length : Int) < (xs.length : Int)) := by omega
      simp only [e1, decide_false, Bool.false_eq_true, if_false]
      rw [List.drop_length, hl, List.drop_length]
      rfl) (Nat.lt_succ_self _)
    simpa using this
  · rw [if_pos (by simp; omega), eqTexts_len hl]
def P.i_SameChain1 (k : Nat) (x : ((List ByteArray) × ((List ByteArray) × Unit))) : (Option (Bool × Unit)) :=
 (Option.bind (S.slices_Equal__string_string (x.1 , (x.2.1 , ()))) (fun (y0 : (Bool × Unit)) => (some (y0.1 , ()))))
def S.i_SameChain1 (x : ((List ByteArray) × ((List ByteArray) × Unit))) : (Option (Bool × Unit)) := P.i_SameChain1 0 x
theorem S.i_SameChain1_ok (x : ((List ByteArray) × ((List ByteArray) × Unit))) (r : _) (h : S.i_SameChain1 x = some r) : ∃ k, P.i_SameChain1 k x = some r := ⟨0, h⟩
abbrev P.slices_EqualFunc___string___string__string__string_b0  (x1 : (Int × (Int × ((List (List ByteArray)) × ((List (List ByteArray)) × (Unit × Unit)))))) (g2 : (Int × (Int × ((List (List ByteArray)) × ((List (List ByteArray)) × (Unit × Unit))))) → Option (Bool × Unit)) : Option (Bool × Unit) :=
 (if ((decide (x1.1 < x1.2.1)) = true) then (if ((decide ((0 : Int) ≤ x1.1)) = true) then (if ((decide (x1.1 < (((List.length x1.2.2.1) : Nat) : Int))) = true) then (if ((decide ((0 : Int) ≤ x1.1)) = true) then (if ((decide (x1.1 < (((List.length x1.2.2.2.1) : Nat) : Int))) = true) then (Option.bind (S.i_SameChain1 ((List.getD x1.2.2.1 (Int.toNat x1.1) ([] : List ByteArray)) , ((List.getD x1.2.2.2.1 (Int.toNat x1.1) ([] : List ByteArray)) , ()))) (fun (y3 : (Bool × Unit)) => (if ((!y3.1) = true) then (some (false , ()))
 else (g2 ((Go.IntKind.wrap Go.IntKind.i64 (x1.1 + (1 : Int))) , (x1.2.1 , (x1.2.2.1 , (x1.2.2.2.1 , (() , ())))))))))
 else none)
 else none)
 else none)
 else none)
 else (some (true , ())))
def P.slices_EqualFunc___string___string__string__string (k : Nat) (x : ((List (List ByteArray)) × ((List (List ByteArray)) × (Unit × Unit)))) : (Option (Bool × Unit)) :=
 (if (((((List.length x.1) : Nat) : Int) != (((List.length x.2.1) : Nat) : Int)) = true) then (some (false , ()))
 else (loopP (X := (Int × (Int × ((List (List ByteArray)) × ((List (List ByteArray)) × (Unit × Unit)))))) (R := (Bool × Unit)) (P.slices_EqualFunc___string___string__string__string_b0 ) k ((0 : Int) , ((((List.length x.1) : Nat) : Int) , (x.1 , (x.2.1 , (() , ())))))))
open Classical in
def S.slices_EqualFunc___string___string__string__string (x : ((List (List ByteArray)) × ((List (List ByteArray)) × (Unit × Unit)))) : (Option (Bool × Unit)) := if x.1.length ≤ 9223372036854775807 ∧ ∀ r ∈ x.1, r.length ≤ 9223372036854775807 then some (eqTT x.1 x.2.1, ()) else none
theorem S.slices_EqualFunc___string___string__string__string_ok (x : ((List (List ByteArray)) × ((List (List ByteArray)) × (Unit × Unit)))) (r : _) (h : S.slices_EqualFunc___string___string__string__string x = some r) : ∃ k, P.slices_EqualFunc___string___string__string__string k x = some r := by
  obtain ⟨xs, ys, ⟨⟩, ⟨⟩⟩ := x
  unfold S.slices_EqualFunc___string___string__string__string at h
  dsimp only at h
  split at h
  case isFalse => cases h
  rename_i hc
  obtain ⟨hc, hr⟩ := hc
  cases h
  refine ⟨xs.length + 1, ?_⟩
  unfold P.slices_EqualFunc___string___string__string__string
  dsimp only
  by_cases hl : xs.length = ys.length
  · have e0 : ((xs.length : Int) != (ys.length : Int)) = false := by simp [hl]
    rw [if_neg (by rw [e0]; simp)]
    have := loop_up0 (b := P.slices_EqualFunc___string___string__string__string_b0) (n := xs.length) (st := fun i => ((i : Int), (xs.length : Int), xs, ys, (), ())) (F := fun i => some (eqTT (xs.drop i) (ys.drop i), ())) (fun i g hi hg => by
      have hy : i < ys.length := by omega
      unfold P.slices_EqualFunc___string___string__string__string_b0
      dsimp only at hg ⊢
      have e1 : (i : Int) < (xs.length : Int) := by omega
      have e1' : (i : Int) < (ys.length : Int) := by omega
      have e2 : (0 : Int) ≤ (i : Int) := by omega
      have es : S.i_SameChain1 (xs[i], ys[i], ()) = some (eqTexts xs[i] ys[i], ()) := by simp [S.i_SameChain1, P.i_SameChain1, S.slices_Equal__string_string, hr xs[i] (List.getElem_mem hi)]
      simp only [e1, e1', e2, decide_true, if_true]
      rw [getD_cast xs i _ hi, getD_cast ys i _ hy, wr (x := (i : Int) + 1) (by omega) (by omega), eqTT_drop hi hy, es, Option.bind_some]
      cases hq : eqTexts xs[i] ys[i]
      · simp
      · simp only [Bool.not_true, Bool.false_eq_true, if_false, Bool.true_and]
        exact hg) (fun g => by
      unfold P.slices_EqualFunc___string___string__string__string_b0
      have e1 : ¬ ((xs.length : Int) < (xs.length : Int)) := by omega
      simp only [e1, decide_false, Bool.false_eq_true, if_false]
      rw [List.drop_length, hl, List.drop_length]
      rfl) (Nat.lt_succ_self _)
    simpa using this
  · rw [if_pos (by simp; omega), eqTT_len hl]
def P.i_SameChain (k : Nat) (x : ((List (List ByteArray)) × ((List (List ByteArray)) × Unit))) : (Option (Bool × Unit)) :=
 (Option.bind (S.slices_EqualFunc___string___string__string__string (x.1 , (x.2.1 , (() , ())))) (fun (y0 : (Bool × Unit)) => (some (y0.1 , ()))))
def S.i_SameChain (x : ((List (List ByteArray)) × ((List (List ByteArray)) × Unit))) : (Option (Bool × Unit)) := P.i_SameChain 0 x
theorem S.i_SameChain_ok (x : ((List (List ByteArray)) × ((List (List ByteArray)) × Unit))) (r : _) (h : S.i_SameChain x = some r) : ∃ k, P.i_SameChain k x = some r := ⟨0, h⟩
def P.l_FnExactSameChain (k : Nat) (x : ((List (List ByteArray)) × ((List (List ByteArray)) × Unit))) : (Option (Bool × Unit)) :=
 (Option.bind (S.l_szChain (x.1 , ((1000000 : Int) , ()))) (fun (y0 : (Int × Unit)) => (if ((decide (y0.1 < (0 : Int))) = true) then (some (true , ()))
 else (Option.bind (S.l_szChain (x.2.1 , (y0.1 , ()))) (fun (y1 : (Int × Unit)) => (if ((decide (y1.1 < (0 : Int))) = true) then (some (true , ()))
 else (Option.bind (S.l_toChain (x.1 , (false , ()))) (fun (y2 : (((List ((List ByteArray) × Nat)) × Nat) × Unit)) => (Option.bind (S.l_toChain (x.2.1 , (false , ()))) (fun (y3 : (((List ((List ByteArray) × Nat)) × Nat) × Unit)) => (Option.bind (S.s_SameChain ((List.map (fun (y4 : ((List ByteArray) × Nat)) => (List.map (fun (y5 : ByteArray) => y5) (List.take y4.2 y4.1))) (List.take y2.1.2 y2.1.1)) , ((List.map (fun (y6 : ((List ByteArray) × Nat)) => (List.map (fun (y7 : ByteArray) => y7) (List.take y6.2 y6.1))) (List.take y3.1.2 y3.1.1)) , ()))) (fun (y8 : (Bool × Unit)) => (Option.bind (S.l_toChain (x.1 , (false , ()))) (fun (y9 : (((List ((List ByteArray) × Nat)) × Nat) × Unit)) => (Option.bind (S.l_toChain (x.2.1 , (false , ()))) (fun (y10 : (((List ((List ByteArray) × Nat)) × Nat) × Unit)) => (Option.bind (S.i_SameChain ((List.map (fun (y11 : ((List ByteArray) × Nat)) => (List.map (fun (y12 : ByteArray) => y12) (List.take y11.2 y11.1))) (List.take y9.1.2 y9.1.1)) , ((List.map (fun (y13 : ((List ByteArray) × Nat)) => (List.map (fun (y14 : ByteArray) => y14) (List.take y13.2 y13.1))) (List.take y10.1.2 y10.1.1)) , ()))) (fun (y15 : (Bool × Unit)) => (if ((!(y15.1 == y8.1)) = true) then (some (false , ()))
 else (Option.bind (S.l_toChain (x.1 , (false , ()))) (fun (y16 : (((List ((List ByteArray) × Nat)) × Nat) × Unit)) => (Option.bind (S.l_intactChain ((y9.1.1 , y9.1.2) , ((y16.1.1 , y16.1.2) , ()))) (fun (y17 : (Bool × Unit)) => (if ((!y17.1) = true) then (some (false , ()))
 else (Option.bind (S.l_toChain (x.2.1 , (false , ()))) (fun (y18 : (((List ((List ByteArray) × Nat)) × Nat) × Unit)) => (Option.bind (S.l_intactChain ((y10.1.1 , y10.1.2) , ((y18.1.1 , y18.1.2) , ()))) (fun (y19 : (Bool × Unit)) => (if ((!y19.1) = true) then (some (false , ()))
 else (Option.bind (S.l_toChain (x.1 , (true , ()))) (fun (y20 : (((List ((List ByteArray) × Nat)) × Nat) × Unit)) => (Option.bind (S.l_toChain (x.2.1 , (true , ()))) (fun (y21 : (((List ((List ByteArray) × Nat)) × Nat) × Unit)) => (Option.bind (S.i_SameChain ((List.map (fun (y22 : ((List ByteArray) × Nat)) => (List.map (fun (y23 : ByteArray) => y23) (List.take y22.2 y22.1))) (List.take y20.1.2 y20.1.1)) , ((List.map (fun (y24 : ((List ByteArray) × Nat)) => (List.map (fun (y25 : ByteArray) => y25) (List.take y24.2 y24.1))) (List.take y21.1.2 y21.1.1)) , ()))) (fun (y26 : (Bool × Unit)) => (if ((!(y26.1 == y8.1)) = true) then (some (false , ()))
 else (some (true , ()))))))))))))))))))))))))))))))))))))))
def S.l_FnExactSameChain (x : ((List (List ByteArray)) × ((List (List ByteArray)) × Unit))) : (Option (Bool × Unit)) := P.l_FnExactSameChain 0 x
theorem S.l_FnExactSameChain_ok (x : ((List (List ByteArray)) × ((List (List ByteArray)) × Unit))) (r : _) (h : S.l_FnExactSameChain x = some r) : ∃ k, P.l_FnExactSameChain k x = some r := ⟨0, h⟩
end Go.Cm
end
