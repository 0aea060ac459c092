import Derived.Test.YtcbgagohjjdfeaaCmQa
set_option linter.unusedVariables false
set_option maxRecDepth 100000
noncomputable section
namespace Go.Cm
abbrev P.l_szStringS_b0  (x1 : (Int × ((List ByteArray) × (Int × Unit)))) (g2 : (Int × ((List ByteArray) × (Int × Unit))) → Option (Int × Unit)) : Option (Int × Unit) :=
 (if ((decide (x1.1 < (((List.length x1.2.1) : Nat) : Int))) = true) then (if ((decide ((0 : Int) ≤ x1.1)) = true) then (if ((decide (x1.1 < (((List.length x1.2.1) : Nat) : Int))) = true) then (if ((decide ((Go.IntKind.wrap Go.IntKind.i64 (x1.2.2.1 - (((ByteArray.size (List.getD x1.2.1 (Int.toNat x1.1) (bs []))) : Nat) : Int))) < (0 : Int))) = true) then (some ((-1 : Int) , ()))
 else (g2 ((Go.IntKind.wrap Go.IntKind.i64 (x1.1 + (1 : Int))) , (x1.2.1 , ((Go.IntKind.wrap Go.IntKind.i64 (x1.2.2.1 - (((ByteArray.size (List.getD x1.2.1 (Int.toNat x1.1) (bs []))) : Nat) : Int))) , ())))))
 else none)
 else none)
 else (some (x1.2.2.1 , ())))
def P.l_szStringS (k : Nat) (x : ((List ByteArray) × (Int × Unit))) : (Option (Int × Unit)) :=
 (if ((decide ((Go.IntKind.wrap Go.IntKind.i64 (x.2.1 - (((List.length x.1) : Nat) : Int))) < (0 : Int))) = true) then (some ((-1 : Int) , ()))
 else (loopP (X := (Int × ((List ByteArray) × (Int × Unit)))) (R := (Int × Unit)) (P.l_szStringS_b0 ) k ((0 : Int) , (x.1 , ((Go.IntKind.wrap Go.IntKind.i64 (x.2.1 - (((List.length x.1) : Nat) : Int))) , ())))))
def szGo : List ByteArray → Int → Int
  | [], l => l
  | x :: xs, l => if l - (x.size : Int) < 0 then -1 else szGo xs (l - (x.size : Int))
def szS (xs : List ByteArray) (left : Int) : Int := if left - (xs.length : Int) < 0 then -1 else szGo xs (left - (xs.length : Int))
theorem szGo_le : ∀ (xs : List ByteArray) (l : Int), 0 ≤ l → szGo xs l ≤ l ∧ -1 ≤ szGo xs l
  | [], l, h => by simp [szGo]; omega
  | x :: xs, l, h => by
    simp only [szGo]
    split
    · omega
    · have := szGo_le xs (l - (x.size : Int)) (by omega)
      omega
theorem szS_le (xs : List ByteArray) (l : Int) (h : 0 ≤ l) : szS xs l ≤ l ∧ -1 ≤ szS xs l := by
  unfold szS
  split
  · omega
  · have := szGo_le xs (l - (xs.length : Int)) (by omega)
    omega
theorem szS_len (xs : List ByteArray) (l : Int) (h : 0 ≤ szS xs l) : (xs.length : Int) ≤ l := by
  unfold szS at h
  split at h <;> omega
abbrev okTexts (xs : List ByteArray) : Prop := xs.length ≤ 9223372036854775807 ∧ ∀ x ∈ xs, x.size ≤ 9223372036854775807
open Classical in
def S.l_szStringS (x : ((List ByteArray) × (Int × Unit))) : (Option (Int × Unit)) := if okTexts x.1 ∧ 0 ≤ x.2.1 ∧ x.2.1 ≤ 1000000 then some (szS x.1 x.2.1, ()) else none
theorem S.l_szStringS_ok (x : ((List ByteArray) × (Int × Unit))) (r : _) (h : S.l_szStringS x = some r) : ∃ k, P.l_szStringS k x = some r := by
  obtain ⟨xs, left, u⟩ := x
  unfold S.l_szStringS at h
  split at h
  case isFalse => cases h
  rename_i hc
  obtain ⟨⟨hl, hs⟩, h0, h1⟩ := hc
  cases h
  refine ⟨xs.length + 1, ?_⟩
  unfold P.l_szStringS szS
  dsimp only at hl hs h0 h1 ⊢
  rw [wr (by omega) (by omega)]
  by_cases hn : left - (xs.length : Int) < 0
  · simp [hn]
  · simp only [hn, decide_false, Bool.false_eq_true, if_false]
    have key : ∀ m i k l, i + m = xs.length → m < k → 0 ≤ l → l ≤ 1000000 → loopP P.l_szStringS_b0 k ((i : Int), xs, l, ()) = some (szGo (xs.drop i) l, ()) := by
      intro m
      induction m with
      | zero =>
        intro i k l hi hk h0 h1
        cases k with
        | zero => omega
        | succ k =>
          have : i = xs.length := by omega
          subst this
          simp [loopP_succ, P.l_szStringS_b0, szGo]
      | succ m ih =>
        intro i k l hi hk h0 h1
        cases k with
        | zero => omega
        | succ k =>
          have hi' : i < xs.length := by omega
          have hsz := hs xs[i] (List.getElem_mem hi')
          rw [loopP_succ]
          unfold P.l_szStringS_b0
          rw [List.drop_eq_getElem_cons hi']
          dsimp only
          rw [getD_cast xs i _ hi', wr (by omega) (by omega), wr (x := (i : Int) + 1) (by omega) (by omega)]
          have e1 : (i : Int) < (xs.length : Int) := by omega
          have e2 : (0 : Int) ≤ (i : Int) := by omega
          simp only [e1, e2, decide_true, if_true, szGo]
          by_cases hq : l - (xs[i].size : Int) < 0
          · simp [hq]
          · simp only [hq, decide_false, Bool.false_eq_true, if_false]
            have := ih (i + 1) k (l - (xs[i].size : Int)) (by omega) (by omega) (by omega) (by omega)
            rw [← this]
            rfl
    have := key xs.length 0 (xs.length + 1) (left - (xs.length : Int)) (by omega) (by omega) (by omega) (by omega)
    rw [List.drop_zero] at this
    exact this
def P.l_szLine (k : Nat) (x : (((List ByteArray) × (List ByteArray)) × (Int × Unit))) : (Option (Int × Unit)) :=
 (Option.bind (S.l_szStringS (x.1.1 , (x.2.1 , ()))) (fun (y0 : (Int × Unit)) => (if ((decide (y0.1 < (0 : Int))) = true) then (some ((-1 : Int) , ()))
 else (Option.bind (S.l_szStringS (x.1.2 , (y0.1 , ()))) (fun (y1 : (Int × Unit)) => (if ((decide (y1.1 < (0 : Int))) = true) then (some ((-1 : Int) , ()))
 else (some (y1.1 , ()))))))))
def S.l_szLine (x : (((List ByteArray) × (List ByteArray)) × (Int × Unit))) : (Option (Int × Unit)) := P.l_szLine 0 x
theorem S.l_szLine_ok (x : (((List ByteArray) × (List ByteArray)) × (Int × Unit))) (r : _) (h : S.l_szLine x = some r) : ∃ k, P.l_szLine k x = some r := ⟨0, h⟩
def P.l_roomBehind (k : Nat) (x : (Int × Unit)) : (Option (Int × Unit)) :=
 (if (((Int.tmod x.1 (6 : Int)) == (5 : Int)) = true) then (some ((0 : Int) , ()))
 else (if (((Int.tmod x.1 (3 : Int)) == (0 : Int)) = true) then (some ((1 : Int) , ()))
 else (some (x.1 , ()))))
def S.l_roomBehind (x : (Int × Unit)) : (Option (Int × Unit)) := P.l_roomBehind 0 x
theorem S.l_roomBehind_ok (x : (Int × Unit)) (r : _) (h : S.l_roomBehind x = some r) : ∃ k, P.l_roomBehind k x = some r := ⟨0, h⟩
abbrev P.l_toStringS_b4 (k : Nat) (x5 : (Int × ((List ByteArray) × ((List ByteArray) × Unit)))) (g6 : (Int × ((List ByteArray) × ((List ByteArray) × Unit))) → Option (((List ByteArray) × Nat) × Unit)) : Option (((List ByteArray) × Nat) × Unit) :=
 (if ((decide (x5.1 < (((vlen x5.2.1 none) : Nat) : Int))) = true) then (if ((decide ((0 : Int) ≤ x5.1)) = true) then (if ((decide (x5.1 < (((vlen x5.2.1 none) : Nat) : Int))) = true) then (g6 ((Go.IntKind.wrap Go.IntKind.i64 (x5.1 + (1 : Int))) , ((look (List.set x5.2.1 (0 + (Int.toNat x5.1)) (bs [126, 115, 112, 97, 114, 101, 126])) none) , (x5.2.2.1 , ()))))
 else none)
 else none)
 else (if ((decide ((0 : Int) ≤ (((List.length x5.2.2.1) : Nat) : Int))) = true) then (if ((decide (((((List.length x5.2.2.1) : Nat) : Int) + (0 : Int)) ≤ (((List.length x5.2.1) : Nat) : Int))) = true) then (if ((decide ((0 : Int) ≤ (((List.length x5.2.2.1) : Nat) : Int))) = true) then (some (((List.drop (0 : Nat) x5.2.1) , (vlen x5.2.1 (some ((0 : Nat) , ((Int.toNat (((List.length x5.2.2.1) : Nat) : Int)) - (0 : Nat)))))) , ()))
 else none)
 else none)
 else none))
abbrev P.l_toStringS_b1 (k : Nat) (x2 : (Int × ((List ByteArray) × ((List ByteArray) × Unit)))) (g3 : (Int × ((List ByteArray) × ((List ByteArray) × Unit))) → Option (((List ByteArray) × Nat) × Unit)) : Option (((List ByteArray) × Nat) × Unit) :=
 (if ((decide (x2.1 < (((List.length x2.2.1) : Nat) : Int))) = true) then (if ((decide ((0 : Int) ≤ x2.1)) = true) then (if ((decide (x2.1 < (((List.length x2.2.1) : Nat) : Int))) = true) then (if ((decide ((0 : Int) ≤ x2.1)) = true) then (if ((decide (x2.1 < (((vlen x2.2.2.1 none) : Nat) : Int))) = true) then (g3 ((Go.IntKind.wrap Go.IntKind.i64 (x2.1 + (1 : Int))) , (x2.2.1 , ((look (List.set x2.2.2.1 (0 + (Int.toNat x2.1)) (List.getD x2.2.1 (Int.toNat x2.1) (bs []))) none) , ()))))
 else none)
 else none)
 else none)
 else none)
 else (loopP (X := (Int × ((List ByteArray) × ((List ByteArray) × Unit)))) (R := (((List ByteArray) × Nat) × Unit)) (P.l_toStringS_b4 k) k ((((List.length x2.2.1) : Nat) : Int) , ((look x2.2.2.1 none) , (x2.2.1 , ())))))
abbrev P.l_toStringS_b11 (k : Nat) (x12 : (Int × ((List ByteArray) × ((List ByteArray) × Unit)))) (g13 : (Int × ((List ByteArray) × ((List ByteArray) × Unit))) → Option (((List ByteArray) × Nat) × Unit)) : Option (((List ByteArray) × Nat) × Unit) :=
 (if ((decide (x12.1 < (((vlen x12.2.1 none) : Nat) : Int))) = true) then (if ((decide ((0 : Int) ≤ x12.1)) = true) then (if ((decide (x12.1 < (((vlen x12.2.1 none) : Nat) : Int))) = true) then (g13 ((Go.IntKind.wrap Go.IntKind.i64 (x12.1 + (1 : Int))) , ((look (List.set x12.2.1 (0 + (Int.toNat x12.1)) (bs [126, 115, 112, 97, 114, 101, 126])) none) , (x12.2.2.1 , ()))))
 else none)
 else none)
 else (if ((decide ((0 : Int) ≤ (((List.length x12.2.2.1) : Nat) : Int))) = true) then (if ((decide (((((List.length x12.2.2.1) : Nat) : Int) + (0 : Int)) ≤ (((List.length x12.2.1) : Nat) : Int))) = true) then (if ((decide ((0 : Int) ≤ (((List.length x12.2.2.1) : Nat) : Int))) = true) then (some (((List.drop (0 : Nat) x12.2.1) , (vlen x12.2.1 (some ((0 : Nat) , ((Int.toNat (((List.length x12.2.2.1) : Nat) : Int)) - (0 : Nat)))))) , ()))
 else none)
 else none)
 else none))
abbrev P.l_toStringS_b8 (k : Nat) (x9 : (Int × ((List ByteArray) × ((List ByteArray) × Unit)))) (g10 : (Int × ((List ByteArray) × ((List ByteArray) × Unit))) → Option (((List ByteArray) × Nat) × Unit)) : Option (((List ByteArray) × Nat) × Unit) :=
 (if ((decide (x9.1 < (((List.length x9.2.1) : Nat) : Int))) = true) then (if ((decide ((0 : Int) ≤ x9.1)) = true) then (if ((decide (x9.1 < (((List.length x9.2.1) : Nat) : Int))) = true) then (if ((decide ((0 : Int) ≤ x9.1)) = true) then (if ((decide (x9.1 < (((vlen x9.2.2.1 none) : Nat) : Int))) = true) then (g10 ((Go.IntKind.wrap Go.IntKind.i64 (x9.1 + (1 : Int))) , (x9.2.1 , ((look (List.set x9.2.2.1 (0 + (Int.toNat x9.1)) (List.getD x9.2.1 (Int.toNat x9.1) (bs []))) none) , ()))))
 else none)
 else none)
 else none)
 else none)
 else (loopP (X := (Int × ((List ByteArray) × ((List ByteArray) × Unit)))) (R := (((List ByteArray) × Nat) × Unit)) (P.l_toStringS_b11 k) k ((((List.length x9.2.1) : Nat) : Int) , ((look x9.2.2.1 none) , (x9.2.1 , ())))))
def P.l_toStringS (k : Nat) (x : ((List ByteArray) × (Bool × Unit))) : (Option (((List ByteArray) × Nat) × Unit)) :=
 (if (x.2.1 = true) then (if (((((List.length x.1) : Nat) : Int) == (0 : Int)) = true) then (some ((([] : List ByteArray) , 0) , ()))
 else (Option.bind (S.l_roomBehind ((((List.length x.1) : Nat) : Int) , ())) (fun (y0 : (Int × Unit)) => (if ((decide ((0 : Int) ≤ (Go.IntKind.wrap Go.IntKind.i64 ((((List.length x.1) : Nat) : Int) + y0.1)))) = true) then (if ((decide ((Go.IntKind.wrap Go.IntKind.i64 ((((List.length x.1) : Nat) : Int) + y0.1)) ≤ (Go.IntKind.wrap Go.IntKind.i64 ((((List.length x.1) : Nat) : Int) + y0.1)))) = true) then (if ((decide (((Go.IntKind.wrap Go.IntKind.i64 ((((List.length x.1) : Nat) : Int) + y0.1)) * (16 : Int)) ≤ (281474976710656 : Int))) = true) then (loopP (X := (Int × ((List ByteArray) × ((List ByteArray) × Unit)))) (R := (((List ByteArray) × Nat) × Unit)) (P.l_toStringS_b1 k) k ((0 : Int) , (x.1 , ((look (List.replicate (Int.toNat (Go.IntKind.wrap Go.IntKind.i64 ((((List.length x.1) : Nat) : Int) + y0.1))) (bs [])) (if (true = true) then none
 else (some (0 , (Int.toNat (Go.IntKind.wrap Go.IntKind.i64 ((((List.length x.1) : Nat) : Int) + y0.1))))))) , ()))))
 else none)
 else none)
 else none))))
 else (Option.bind (S.l_roomBehind ((((List.length x.1) : Nat) : Int) , ())) (fun (y7 : (Int × Unit)) => (if ((decide ((0 : Int) ≤ (Go.IntKind.wrap Go.IntKind.i64 ((((List.length x.1) : Nat) : Int) + y7.1)))) = true) then (if ((decide ((Go.IntKind.wrap Go.IntKind.i64 ((((List.length x.1) : Nat) : Int) + y7.1)) ≤ (Go.IntKind.wrap Go.IntKind.i64 ((((List.length x.1) : Nat) : Int) + y7.1)))) = true) then (if ((decide (((Go.IntKind.wrap Go.IntKind.i64 ((((List.length x.1) : Nat) : Int) + y7.1)) * (16 : Int)) ≤ (281474976710656 : Int))) = true) then (loopP (X := (Int × ((List ByteArray) × ((List ByteArray) × Unit)))) (R := (((List ByteArray) × Nat) × Unit)) (P.l_toStringS_b8 k) k ((0 : Int) , (x.1 , ((look (List.replicate (Int.toNat (Go.IntKind.wrap Go.IntKind.i64 ((((List.length x.1) : Nat) : Int) + y7.1))) (bs [])) (if (true = true) then none
 else (some (0 , (Int.toNat (Go.IntKind.wrap Go.IntKind.i64 ((((List.length x.1) : Nat) : Int) + y7.1))))))) , ()))))
 else none)
 else none)
 else none))))
def spare : ByteArray := bs [126, 115, 112, 97, 114, 101, 126]
/-- A list with what is laid behind it. -/
def tos {α : Type} (fill : α) (bare : Bool) (xs : List α) : List α × Nat := if bare = true ∧ xs = [] then ([], 0) else (xs ++ List.replicate (rb xs.length).toNat fill, xs.length)
theorem tos_take {α : Type} (fill : α) (bare : Bool) (xs : List α) : (tos fill bare xs).1.take (tos fill bare xs).2 = xs := by
  unfold tos
  split
  · rename_i h; rw [h.2]; rfl
  · simp
def S.l_toStringS (x : ((List ByteArray) × (Bool × Unit))) : (Option (((List ByteArray) × Nat) × Unit)) := if x.1.length ≤ 1000000 then some (tos spare x.2.1 x.1, ()) else none
theorem toStringS_b4 (k0 : Nat) (xs : List ByteArray) (m n k : Nat) (h : n = xs.length) (hl : n ≤ 1000000) (hm : m ≤ n + 1) (hk : m < k) :
    loopP (P.l_toStringS_b4 k0) k ((n : Int), xs ++ List.replicate m (bs []), xs, ()) = some ((xs ++ List.replicate m spare, n), ()) := by
  have key := loop_up0 (b := P.l_toStringS_b4 k0) (n := m) (st := fun i => (((n + i : Nat) : Int), (xs ++ List.replicate i spare) ++ List.replicate (m - i) (bs []), xs, ())) (F := fun i => some ((xs ++ List.replicate m spare, n), ())) (fun i g hi hg => by
    unfold P.l_toStringS_b4
    dsimp only [vlen, look] at hg ⊢
    have hlen : ((xs ++ List.replicate i spare) ++ List.replicate (m - i) (bs [])).length = n + m := by simp; omega
    simp only [hlen]
    have e1 : ((n + i : Nat) : Int) < ((n + m : Nat) : Int) := by omega
    have e2 : (0 : Int) ≤ ((n + i : Nat) : Int) := by omega
    simp only [e1, e2, decide_true, if_true]
    rw [wr (by omega) (by omega), ← hg]
    congr 1
    have e3 : m - i = (m - (i + 1)) + 1 := by omega
    have e4 : (0 + ((n + i : Nat) : Int).toNat) = (xs ++ List.replicate i spare).length := by rw [List.length_append, List.length_replicate]; omega
    rw [e3, e4, set_fill]
    simp only [List.replicate_succ', ← List.append_assoc, spare]
    rfl) (fun g => by
    unfold P.l_toStringS_b4
    dsimp only [vlen, look]
    have hlen : ((xs ++ List.replicate m spare) ++ List.replicate (m - m) (bs [])).length = n + m := by simp; omega
    simp only [hlen]
    have e1 : ¬ ((n + m : Nat) : Int) < ((n + m : Nat) : Int) := by omega
    have e2 : (0 : Int) ≤ (xs.length : Int) := by omega
    have e3 : (xs.length : Int) + 0 ≤ ((n + m : Nat) : Int) := by omega
    simp only [e1, e2, e3, decide_true, decide_false, if_true, Bool.false_eq_true, if_false]
    simp [h]) hk
  simpa using key
theorem toStringS_b1 (k0 : Nat) (xs : List ByteArray) (m k : Nat) (hl : xs.length ≤ 1000000) (hm : m ≤ xs.length + 1) (hk0 : m < k0) (hk : xs.length < k) :
    loopP (P.l_toStringS_b1 k0) k ((0 : Int), xs, List.replicate (xs.length + m) (bs []), ()) = some ((xs ++ List.replicate m spare, xs.length), ()) := by
  have key := loop_up0 (b := P.l_toStringS_b1 k0) (n := xs.length) (st := fun i => ((i : Int), xs, xs.take i ++ List.replicate (xs.length - i + m) (bs []), ())) (F := fun i => some ((xs ++ List.replicate m spare, xs.length), ())) (fun i g hi hg => by
    unfold P.l_toStringS_b1
    dsimp only [vlen, look] at hg ⊢
    have hlen : (xs.take i ++ List.replicate (xs.length - i + m) (bs [])).length = xs.length + m := by simp; omega
    simp only [hlen]
    have e1 : (i : Int) < (xs.length : Int) := by omega
    have e1' : (i : Int) < ((xs.length + m : Nat) : Int) := by omega
    have e2 : (0 : Int) ≤ (i : Int) := by omega
    simp only [e1, e1', e2, decide_true, if_true]
    rw [wr (by omega) (by omega), getD_cast xs i _ hi, ← hg]
    congr 1
    have e3 : xs.length - i + m = (xs.length - (i + 1) + m) + 1 := by omega
    have e4 : (0 + (i : Int).toNat) = (xs.take i).length := by simp; omega
    rw [e3, e4, set_fill]
    simp) (fun g => by
    unfold P.l_toStringS_b1
    dsimp only [vlen, look]
    have e1 : ¬ (xs.length : Int) < (xs.length : Int) := by omega
    simp only [e1, decide_false, Bool.false_eq_true, if_false]
    have := toStringS_b4 k0 xs m xs.length k0 rfl hl hm hk0
    simpa using this) hk
  simpa using key
theorem S.l_toStringS_ok (x : ((List ByteArray) × (Bool × Unit))) (r : _) (h : S.l_toStringS x = some r) : ∃ k, P.l_toStringS k x = some r := by
  obtain ⟨xs, bare, u⟩ := x
  unfold S.l_toStringS at h
  dsimp only at h
  split at h
  case isFalse => cases h
  rename_i hl
  cases h
  refine ⟨xs.length + 2, ?_⟩
  have hr := rb_le xs.length
  have go : (Option.bind (S.l_roomBehind ((((List.length xs) : Nat) : Int) , ())) (fun (y0 : (Int × Unit)) => (if ((decide ((0 : Int) ≤ (Go.IntKind.wrap Go.IntKind.i64 ((((List.length xs) : Nat) : Int) + y0.1)))) = true) then (if ((decide ((Go.IntKind.wrap Go.IntKind.i64 ((((List.length xs) : Nat) : Int) + y0.1)) ≤ (Go.IntKind.wrap Go.IntKind.i64 ((((List.length xs) : Nat) : Int) + y0.1)))) = true) then (if ((decide (((Go.IntKind.wrap Go.IntKind.i64 ((((List.length xs) : Nat) : Int) + y0.1)) * (16 : Int)) ≤ (281474976710656 : Int))) = true) then (loopP (X := (Int × ((List ByteArray) × ((List ByteArray) × Unit)))) (R := (((List ByteArray) × Nat) × Unit)) (P.l_toStringS_b1 (xs.length + 2)) (xs.length + 2) ((0 : Int) , (xs , ((look (List.replicate (Int.toNat (Go.IntKind.wrap Go.IntKind.i64 ((((List.length xs) : Nat) : Int) + y0.1))) (bs [])) (if (true = true) then none
 else (some (0 , (Int.toNat (Go.IntKind.wrap Go.IntKind.i64 ((((List.length xs) : Nat) : Int) + y0.1))))))) , ()))))
 else none)
 else none)
 else none))) = some ((xs ++ List.replicate (rb xs.length).toNat spare, xs.length), ()) := by
    have e0 : S.l_roomBehind ((xs.length : Int), ()) = some (rb xs.length, ()) := by
      unfold S.l_roomBehind P.l_roomBehind rb
      simp only [beq_iff_eq]
      split
      · rfl
      · split <;> rfl
    rw [e0, Option.bind_some]
    dsimp only [look]
    rw [wr (by omega) (by omega)]
    have e1 : (0 : Int) ≤ (xs.length : Int) + rb xs.length := by omega
    have e2 : (xs.length : Int) + rb xs.length ≤ (xs.length : Int) + rb xs.length := by omega
    have e3 : ((xs.length : Int) + rb xs.length) * 16 ≤ 281474976710656 := by omega
    simp only [e1, e2, e3, decide_true, if_true]
    have e4 : ((xs.length : Int) + rb xs.length).toNat = xs.length + (rb xs.length).toNat := by omega
    rw [e4]
    exact toStringS_b1 _ xs _ _ hl (by omega) (by omega) (by omega)
  unfold P.l_toStringS tos
  dsimp only
  cases bare with
  | true =>
    simp only [if_true]
    by_cases hx : xs = []
    · subst hx; rfl
    · have hx' : ¬ ((((xs.length : Nat) : Int) == 0) = true) := by
        simp [hx]
      rw [if_neg hx', if_neg (by simp [hx])]
      exact go
  | false =>
    simp only [Bool.false_eq_true, if_false, false_and]
    exact go
def P.l_toLine (k : Nat) (x : (((List ByteArray) × (List ByteArray)) × (Bool × Unit))) : (Option ((((List ByteArray) × Nat) × ((List ByteArray) × Nat)) × Unit)) :=
 (Option.bind (S.l_toStringS (x.1.1 , (x.2.1 , ()))) (fun (y0 : (((List ByteArray) × Nat) × Unit)) => (Option.bind (S.l_toStringS (x.1.2 , (x.2.1 , ()))) (fun (y1 : (((List ByteArray) × Nat) × Unit)) => (some (((y0.1.1 , y0.1.2) , (y1.1.1 , y1.1.2)) , ()))))))
def S.l_toLine (x : (((List ByteArray) × (List ByteArray)) × (Bool × Unit))) : (Option ((((List ByteArray) × Nat) × ((List ByteArray) × Nat)) × Unit)) := P.l_toLine 0 x
theorem S.l_toLine_ok (x : (((List ByteArray) × (List ByteArray)) × (Bool × Unit))) (r : _) (h : S.l_toLine x = some r) : ∃ k, P.l_toLine k x = some r := ⟨0, h⟩
abbrev P.l_eqStringS_b0  (x1 : (Int × ((List ByteArray) × ((List ByteArray) × Unit)))) (g2 : (Int × ((List ByteArray) × ((List ByteArray) × Unit))) → Option (Bool × Unit)) : Option (Bool × Unit) :=
 (if ((decide (x1.1 < (((List.length x1.2.1) : Nat) : Int))) = true) then (if ((decide ((0 : Int) ≤ x1.1)) = true) then (if ((decide (x1.1 < (((List.length x1.2.1) : Nat) : Int))) = true) then (if ((decide ((0 : Int) ≤ x1.1)) = true) then (if ((decide (x1.1 < (((List.length x1.2.2.1) : Nat) : Int))) = true) then (if ((!((ByteArray.toList (List.getD x1.2.1 (Int.toNat x1.1) (bs []))) == (ByteArray.toList (List.getD x1.2.2.1 (Int.toNat x1.1) (bs []))))) = true) then (some (false , ()))
 else (g2 ((Go.IntKind.wrap Go.IntKind.i64 (x1.1 + (1 : Int))) , (x1.2.1 , (x1.2.2.1 , ())))))
 else none)
 else none)
 else none)
 else none)
 else (some (true , ())))
def P.l_eqStringS (k : Nat) (x : ((List ByteArray) × ((List ByteArray) × Unit))) : (Option (Bool × Unit)) :=
 (if (((((List.length x.1) : Nat) : Int) != (((List.length x.2.1) : Nat) : Int)) = true) then (some (false , ()))
 else (loopP (X := (Int × ((List ByteArray) × ((List ByteArray) × Unit)))) (R := (Bool × Unit)) (P.l_eqStringS_b0 ) k ((0 : Int) , (x.1 , (x.2.1 , ())))))
def S.l_eqStringS (x : ((List ByteArray) × ((List ByteArray) × Unit))) : (Option (Bool × Unit)) := if x.1.length ≤ 9223372036854775807 then some (eqTexts x.1 x.2.1, ()) else none
theorem S.l_eqStringS_ok (x : ((List ByteArray) × ((List ByteArray) × Unit))) (r : _) (h : S.l_eqStringS x = some r) : ∃ k, P.l_eqStringS k x = some r := by
  obtain ⟨xs, ys, u⟩ := x
  unfold S.l_eqStringS at h
  dsimp only at h
  split at h
  case isFalse => cases h
  rename_i hc
  cases h
  refine ⟨xs.length + 1, ?_⟩
  unfold P.l_eqStringS
  dsimp only
  by_cases hl : xs.length = ys.length
  · have e0 : ((xs.length : Int) != (ys.length : Int)) = false := by simp [hl]
    rw [if_neg (by rw [e0]; simp)]
    have := loop_up0 (b := P.l_eqStringS_b0) (n := xs.length) (st := fun i => ((i : Int), xs, ys, ())) (F := fun i => some (eqTexts (xs.drop i) (ys.drop i), ())) (fun i g hi hg => by
      have hy : i < ys.length := by omega
      unfold P.l_eqStringS_b0
      dsimp only at hg ⊢
      have e1 : (i : Int) < (xs.length : Int) := by omega
      have e1' : (i : Int) < (ys.length : Int) := by omega
      have e2 : (0 : Int) ≤ (i : Int) := by omega
      simp only [e1, e1', e2, decide_true, if_true]
      rw [getD_cast xs i _ hi, getD_cast ys i _ hy, wr (x := (i : Int) + 1) (by omega) (by omega), eqTexts_drop hi hy]
      by_cases hq : (xs[i].toList == ys[i].toList) = true
      · simp only [hq, Bool.not_true, Bool.false_eq_true, if_false, Bool.true_and]
        exact hg
      · have hq' : (xs[i].toList == ys[i].toList) = false := by simpa using hq
        simp only [hq', Bool.not_false, if_true, Bool.false_and]) (fun g => by
      unfold P.l_eqStringS_b0
      have e1 : ¬ ((xs.length : Int) < (xs.length : Int)) := by omega
      simp only [e1, decide_false, Bool.false_eq_true, if_false]
      rw [List.drop_length, hl, List.drop_length]
      rfl) (Nat.lt_succ_self _)
    simpa using this
  · rw [if_pos (by simp; omega), eqTexts_len hl]
def P.l_intactStringS (k : Nat) (x : (((List ByteArray) × Nat) × (((List ByteArray) × Nat) × Unit))) : (Option (Bool × Unit)) :=
 (Option.bind (S.l_roomBehind (((x.2.1.2 : Nat) : Int) , ())) (fun (y0 : (Int × Unit)) => (if ((((x.1.2 : Nat) : Int) == ((x.2.1.2 : Nat) : Int)) = true) then (if ((decide ((0 : Int) ≤ (Go.IntKind.wrap Go.IntKind.i64 (((x.2.1.2 : Nat) : Int) + y0.1)))) = true) then (if ((decide ((Go.IntKind.wrap Go.IntKind.i64 (((x.2.1.2 : Nat) : Int) + y0.1)) ≤ (((List.length x.1.1) : Nat) : Int))) = true) then (if ((decide ((0 : Int) ≤ (Go.IntKind.wrap Go.IntKind.i64 (((x.2.1.2 : Nat) : Int) + y0.1)))) = true) then (if ((decide ((0 : Int) ≤ (Go.IntKind.wrap Go.IntKind.i64 (((x.2.1.2 : Nat) : Int) + y0.1)))) = true) then (if ((decide ((Go.IntKind.wrap Go.IntKind.i64 (((x.2.1.2 : Nat) : Int) + y0.1)) ≤ (((List.length x.2.1.1) : Nat) : Int))) = true) then (if ((decide ((0 : Int) ≤ (Go.IntKind.wrap Go.IntKind.i64 (((x.2.1.2 : Nat) : Int) + y0.1)))) = true) then (Option.bind (S.l_eqStringS ((seen x.1.1 (0 : Nat) ((Int.toNat (Go.IntKind.wrap Go.IntKind.i64 (((x.2.1.2 : Nat) : Int) + y0.1))) - (0 : Nat))) , ((seen x.2.1.1 (0 : Nat) ((Int.toNat (Go.IntKind.wrap Go.IntKind.i64 (((x.2.1.2 : Nat) : Int) + y0.1))) - (0 : Nat))) , ()))) (fun (y1 : (Bool × Unit)) => (some (y1.1 , ()))))
 else none)
 else none)
 else none)
 else none)
 else none)
 else none)
 else (some (false , ())))))
def S.l_intactStringS (x : (((List ByteArray) × Nat) × (((List ByteArray) × Nat) × Unit))) : (Option (Bool × Unit)) := P.l_intactStringS 0 x
theorem S.l_intactStringS_ok (x : (((List ByteArray) × Nat) × (((List ByteArray) × Nat) × Unit))) (r : _) (h : S.l_intactStringS x = some r) : ∃ k, P.l_intactStringS k x = some r := ⟨0, h⟩
theorem room_eq (n : Nat) : S.l_roomBehind ((n : Int), ()) = some (rb n, ()) := by
  unfold S.l_roomBehind P.l_roomBehind rb
  simp only [beq_iff_eq]
  split
  · rfl
  · split <;> rfl
theorem eqStringS_eq (xs ys : List ByteArray) (h : xs.length ≤ 9223372036854775807) : S.l_eqStringS (xs, ys, ()) = some (eqTexts xs ys, ()) := by simp [S.l_eqStringS, h]
theorem toStringS_eq (xs : List ByteArray) (b : Bool) (h : xs.length ≤ 1000000) : S.l_toStringS (xs, b, ()) = some (tos spare b xs, ()) := by simp [S.l_toStringS, h]
theorem tos_false (xs : List ByteArray) : tos spare false xs = (xs ++ List.replicate (rb xs.length).toNat spare, xs.length) := by simp [tos]
theorem intactStringS_eq (xs : List ByteArray) (h : xs.length ≤ 1000000) : S.l_intactStringS (((tos spare false xs).1, (tos spare false xs).2), ((tos spare false xs).1, (tos spare false xs).2), ()) = some (true, ()) := by
  rw [tos_false]
  have hr := rb_le xs.length
  unfold S.l_intactStringS P.l_intactStringS
  dsimp only
  rw [room_eq, Option.bind_some, wr (by omega) (by omega)]
  have hl : ((xs ++ List.replicate (rb xs.length).toNat spare).length : Int) = (xs.length : Int) + rb xs.length := by
    rw [List.length_append, List.length_replicate]
    omega
  have e1 : (0 : Int) ≤ (xs.length : Int) + rb xs.length := by omega
  have e2 : (xs.length : Int) + rb xs.length ≤ (xs.length : Int) + rb xs.length := by omega
  simp only [hl, e1, e2, decide_true, if_true, beq_self_eq_true]
  rw [eqStringS_eq _ _ (by simp [seen]; omega), eqTexts_refl, Option.bind_some]
def P.l_intactLine (k : Nat) (x : ((((List ByteArray) × Nat) × ((List ByteArray) × Nat)) × ((((List ByteArray) × Nat) × ((List ByteArray) × Nat)) × Unit))) : (Option (Bool × Unit)) :=
 (Option.bind (S.l_intactStringS ((x.1.1.1 , x.1.1.2) , ((x.2.1.1.1 , x.2.1.1.2) , ()))) (fun (y0 : (Bool × Unit)) => (if ((!y0.1) = true) then (some (false , ()))
 else (Option.bind (S.l_intactStringS ((x.1.2.1 , x.1.2.2) , ((x.2.1.2.1 , x.2.1.2.2) , ()))) (fun (y1 : (Bool × Unit)) => (if ((!y1.1) = true) then (some (false , ()))
 else (some (true , ()))))))))
def S.l_intactLine (x : ((((List ByteArray) × Nat) × ((List ByteArray) × Nat)) × ((((List ByteArray) × Nat) × ((List ByteArray) × Nat)) × Unit))) : (Option (Bool × Unit)) := P.l_intactLine 0 x
theorem S.l_intactLine_ok (x : ((((List ByteArray) × Nat) × ((List ByteArray) × Nat)) × ((((List ByteArray) × Nat) × ((List ByteArray) × Nat)) × Unit))) (r : _) (h : S.l_intactLine x = some r) : ∃ k, P.l_intactLine k x = some r := ⟨0, h⟩
abbrev P.s_l02Texts_b0  (x1 : (Int × ((List ByteArray) × ((List ByteArray) × Unit)))) (g2 : (Int × ((List ByteArray) × ((List ByteArray) × Unit))) → Option (Bool × Unit)) : Option (Bool × Unit) :=
 (if ((decide (x1.1 < (((List.length x1.2.1) : Nat) : Int))) = true) then (if ((decide ((0 : Int) ≤ x1.1)) = true) then (if ((decide (x1.1 < (((List.length x1.2.1) : Nat) : Int))) = true) then (if ((decide ((0 : Int) ≤ x1.1)) = true) then (if ((decide (x1.1 < (((List.length x1.2.2.1) : Nat) : Int))) = true) then (if ((!((ByteArray.toList (List.getD x1.2.1 (Int.toNat x1.1) (bs []))) == (ByteArray.toList (List.getD x1.2.2.1 (Int.toNat x1.1) (bs []))))) = true) then (some (false , ()))
 else (g2 ((Go.IntKind.wrap Go.IntKind.i64 (x1.1 + (1 : Int))) , (x1.2.1 , (x1.2.2.1 , ())))))
 else none)
 else none)
 else none)
 else none)
 else (some (true , ())))
def P.s_l02Texts (k : Nat) (x : ((List ByteArray) × ((List ByteArray) × Unit))) : (Option (Bool × Unit)) :=
 (if (((((List.length x.1) : Nat) : Int) != (((List.length x.2.1) : Nat) : Int)) = true) then (some (false , ()))
 else (loopP (X := (Int × ((List ByteArray) × ((List ByteArray) × Unit)))) (R := (Bool × Unit)) (P.s_l02Texts_b0 ) k ((0 : Int) , (x.1 , (x.2.1 , ())))))
def S.s_l02Texts (x : ((List ByteArray) × ((List ByteArray) × Unit))) : (Option (Bool × Unit)) := if x.1.length ≤ 9223372036854775807 then some (eqTexts x.1 x.2.1, ()) else none
theorem S.s_l02Texts_ok (x : ((List ByteArray) × ((List ByteArray) × Unit))) (r : _) (h : S.s_l02Texts x = some r) : ∃ k, P.s_l02Texts k x = some r := by
  obtain ⟨xs, ys, u⟩ := x
  unfold S.s_l02Texts at h
  dsimp only at h
  split at h
  case isFalse => cases h
  rename_i hc
  cases h
  refine ⟨xs.length + 1, ?_⟩
  unfold P.s_l02Texts
  dsimp only
  by_cases hl : xs.length = ys.length
  · have e0 : ((xs.length : Int) != (ys.length : Int)) = false := by simp [hl]
    rw [if_neg (by rw [e0]; simp)]
    have := loop_up0 (b := P.s_l02Texts_b0) (n := xs.length) (st := fun i => ((i : Int), xs, ys, ())) (F := fun i => some (eqTexts (xs.drop i) (ys.drop i), ())) (fun i g hi hg => by
      have hy : i < ys.length := by omega
      unfold P.s_l02Texts_b0
      dsimp only at hg ⊢
      have e1 : (i : Int) < (xs.length : Int) := by omega
      have e1' : (i : Int) < (ys.length : Int) := by omega
      have e2 : (0 : Int) ≤ (i : Int) := by omega
      simp only [e1, e1', e2, decide_true, if_true]
      rw [getD_cast xs i _ hi, getD_cast ys i _ hy, wr (x := (i : Int) + 1) (by omega) (by omega), eqTexts_drop hi hy]
      by_cases hq : (xs[i].toList == ys[i].toList) = true
      · simp only [hq, Bool.not_true, Bool.false_eq_true, if_false, Bool.true_and]
        exact hg
      · have hq' : (xs[i].toList == ys[i].toList) = false := by simpa using hq
        simp only [hq', Bool.not_false, if_true, Bool.false_and]) (fun g => by
      unfold P.s_l02Texts_b0
      have e1 : ¬ ((xs.length : Int) < (xs.length : Int)) := by omega
      simp only [e1, decide_false, Bool.false_eq_true, if_false]
      rw [List.drop_length, hl, List.drop_length]
      rfl) (Nat.lt_succ_self _)
    simpa using this
  · rw [if_pos (by simp; omega), eqTexts_len hl]
def P.s_SameLine (k : Nat) (x : (((List ByteArray) × (List ByteArray)) × (((List ByteArray) × (List ByteArray)) × Unit))) : (Option (Bool × Unit)) :=
 (Option.bind (S.s_l02Texts (x.1.1 , (x.2.1.1 , ()))) (fun (y0 : (Bool × Unit)) => (if (y0.1 = true) then (Option.bind (S.s_l02Texts (x.1.2 , (x.2.1.2 , ()))) (fun (y1 : (Bool × Unit)) => (some (y1.1 , ()))))
 else (some (false , ())))))
def S.s_SameLine (x : (((List ByteArray) × (List ByteArray)) × (((List ByteArray) × (List ByteArray)) × Unit))) : (Option (Bool × Unit)) := P.s_SameLine 0 x
theorem S.s_SameLine_ok (x : (((List ByteArray) × (List ByteArray)) × (((List ByteArray) × (List ByteArray)) × Unit))) (r : _) (h : S.s_SameLine x = some r) : ∃ k, P.s_SameLine k x = some r := ⟨0, h⟩
abbrev P.slices_Equal__string_string_b0  (x1 : (Int × (Int × ((List ByteArray) × ((List ByteArray) × Unit))))) (g2 : (Int × (Int × ((List ByteArray) × ((List ByteArray) × Unit)))) → Option (Bool × Unit)) : Option (Bool × Unit) :=
 (if ((decide (x1.1 < x1.2.1)) = true) then (if ((decide ((0 : Int) ≤ x1.1)) = true) then (if ((decide (x1.1 < (((List.length x1.2.2.1) : Nat) : Int))) = true) then (if ((decide ((0 : Int) ≤ x1.1)) = true) then (if ((decide (x1.1 < (((List.length x1.2.2.2.1) : Nat) : Int))) = true) then (if ((!((ByteArray.toList (List.getD x1.2.2.1 (Int.toNat x1.1) (bs []))) == (ByteArray.toList (List.getD x1.2.2.2.1 (Int.toNat x1.1) (bs []))))) = true) then (some (false , ()))
 else (g2 ((Go.IntKind.wrap Go.IntKind.i64 (x1.1 + (1 : Int))) , (x1.2.1 , (x1.2.2.1 , (x1.2.2.2.1 , ()))))))
 else none)
 else none)
 else none)
 else none)
 else (some (true , ())))
def P.slices_Equal__string_string (k : Nat) (x : ((List ByteArray) × ((List ByteArray) × Unit))) : (Option (Bool × Unit)) :=
 (if (((((List.length x.1) : Nat) : Int) != (((List.length x.2.1) : Nat) : Int)) = true) then (some (false , ()))
 else (loopP (X := (Int × (Int × ((List ByteArray) × ((List ByteArray) × Unit))))) (R := (Bool × Unit)) (P.slices_Equal__string_string_b0 ) k ((0 : Int) , ((((List.length x.1) : Nat) : Int) , (x.1 , (x.2.1 , ()))))))
def S.slices_Equal__string_string (x : ((List ByteArray) × ((List ByteArray) × Unit))) : (Option (Bool × Unit)) := if x.1.length ≤ 9223372036854775807 then some (eqTexts x.1 x.2.1, ()) else none
theorem S.slices_Equal__string_string_ok (x : ((List ByteArray) × ((List ByteArray) × Unit))) (r : _) (h : S.slices_Equal__string_string x = some r) : ∃ k, P.slices_Equal__string_string k x = some r := by
  obtain ⟨xs, ys, u⟩ := x
  unfold S.slices_Equal__string_string at h
  dsimp only at h
  split at h
  case isFalse => cases h
  rename_i hc
  cases h
  refine ⟨xs.length + 1, ?_⟩
  unfold P.slices_Equal__string_string
  dsimp only
  by_cases hl : xs.length = ys.length
  · have e0 : ((xs.length : Int) != (ys.length : Int)) = false := by simp [hl]
    rw [if_neg (by rw [e0]; simp)]
    have := loop_up0 (b := P.slices_Equal__string_string_b0) (n := xs.length) (st := fun i => ((i : Int), (xs.length : Int), xs, ys, ())) (F := fun i => some (eqTexts (xs.drop i) (ys.drop i), ())) (fun i g hi hg => by
      have hy : i < ys.length := by omega
      unfold P.slices_Equal__string_string_b0
      dsimp only at hg ⊢
      have e1 : (i : Int) < (xs.length : Int) := by omega
      have e1' : (i : Int) < (ys.length : Int) := by omega
      have e2 : (0 : Int) ≤ (i : Int) := by omega
      simp only [e1, e1', e2, decide_true, if_true]
      rw [getD_cast xs i _ hi, getD_cast ys i _ hy, wr (x := (i : Int) + 1) (by omega) (by omega), eqTexts_drop hi hy]
      by_cases hq : (xs[i].toList == ys[i].toList) = true
      · simp only [hq, Bool.not_true, Bool.false_eq_true, if_false, Bool.true_and]
        exact hg
      · have hq' : (xs[i].toList == ys[i].toList) = false := by simpa using hq
        simp only [hq', Bool.not_false, if_true, Bool.false_and]) (fun g => by
      unfold P.slices_Equal__string_string_b0
      have e1 : ¬ ((xs.length : Int) < (xs.length : Int)) := by omega
      simp only [e1, decide_false, Bool.false_eq_true, if_false]
      rw [List.drop_length, hl, List.drop_length]
      rfl) (Nat.lt_succ_self _)
    simpa using this
  · rw [if_pos (by simp; omega), eqTexts_len hl]
def P.i_SameLine (k : Nat) (x : (((List ByteArray) × (List ByteArray)) × (((List ByteArray) × (List ByteArray)) × Unit))) : (Option (Bool × Unit)) :=
 (Option.bind (S.slices_Equal__string_string (x.1.1 , (x.2.1.1 , ()))) (fun (y0 : (Bool × Unit)) => (if (y0.1 = true) then (Option.bind (S.slices_Equal__string_string (x.1.2 , (x.2.1.2 , ()))) (fun (y1 : (Bool × Unit)) => (some (y1.1 , ()))))
 else (some (false , ())))))
def S.i_SameLine (x : (((List ByteArray) × (List ByteArray)) × (((List ByteArray) × (List ByteArray)) × Unit))) : (Option (Bool × Unit)) := P.i_SameLine 0 x
theorem S.i_SameLine_ok (x : (((List ByteArray) × (List ByteArray)) × (((List ByteArray) × (List ByteArray)) × Unit))) (r : _) (h : S.i_SameLine x = some r) : ∃ k, P.i_SameLine k x = some r := ⟨0, h⟩
def P.l_FnExactSameLine (k : Nat) (x : (((List ByteArray) × (List ByteArray)) × (((List ByteArray) × (List ByteArray)) × Unit))) : (Option (Bool × Unit)) :=
 (Option.bind (S.l_szLine ((x.1.1 , x.1.2) , ((1000000 : Int) , ()))) (fun (y0 : (Int × Unit)) => (if ((decide (y0.1 < (0 : Int))) = true) then (some (true , ()))
 else (Option.bind (S.l_szLine ((x.2.1.1 , x.2.1.2) , (y0.1 , ()))) (fun (y1 : (Int × Unit)) => (if ((decide (y1.1 < (0 : Int))) = true) then (some (true , ()))
 else (Option.bind (S.l_toLine ((x.1.1 , x.1.2) , (false , ()))) (fun (y2 : ((((List ByteArray) × Nat) × ((List ByteArray) × Nat)) × Unit)) => (Option.bind (S.l_toLine ((x.2.1.1 , x.2.1.2) , (false , ()))) (fun (y3 : ((((List ByteArray) × Nat) × ((List ByteArray) × Nat)) × Unit)) => (Option.bind (S.s_SameLine (((List.take y2.1.1.2 y2.1.1.1) , (List.take y2.1.2.2 y2.1.2.1)) , (((List.take y3.1.1.2 y3.1.1.1) , (List.take y3.1.2.2 y3.1.2.1)) , ()))) (fun (y4 : (Bool × Unit)) => (Option.bind (S.l_toLine ((x.1.1 , x.1.2) , (false , ()))) (fun (y5 : ((((List ByteArray) × Nat) × ((List ByteArray) × Nat)) × Unit)) => (Option.bind (S.l_toLine ((x.2.1.1 , x.2.1.2) , (false , ()))) (fun (y6 : ((((List ByteArray) × Nat) × ((List ByteArray) × Nat)) × Unit)) => (Option.bind (S.i_SameLine (((List.take y5.1.1.2 y5.1.1.1) , (List.take y5.1.2.2 y5.1.2.1)) , (((List.take y6.1.1.2 y6.1.1.1) , (List.take y6.1.2.2 y6.1.2.1)) , ()))) (fun (y7 : (Bool × Unit)) => (if ((!(y7.1 == y4.1)) = true) then (some (false , ()))
 else (Option.bind (S.l_toLine ((x.1.1 , x.1.2) , (false , ()))) (fun (y8 : ((((List ByteArray) × Nat) × ((List ByteArray) × Nat)) × Unit)) => (Option.bind (S.l_intactLine (((y5.1.1.1 , y5.1.1.2) , (y5.1.2.1 , y5.1.2.2)) , (((y8.1.1.1 , y8.1.1.2) , (y8.1.2.1 , y8.1.2.2)) , ()))) (fun (y9 : (Bool × Unit)) => (if ((!y9.1) = true) then (some (false , ()))
 else (Option.bind (S.l_toLine ((x.2.1.1 , x.2.1.2) , (false , ()))) (fun (y10 : ((((List ByteArray) × Nat) × ((List ByteArray) × Nat)) × Unit)) => (Option.bind (S.l_intactLine (((y6.1.1.1 , y6.1.1.2) , (y6.1.2.1 , y6.1.2.2)) , (((y10.1.1.1 , y10.1.1.2) , (y10.1.2.1 , y10.1.2.2)) , ()))) (fun (y11 : (Bool × Unit)) => (if ((!y11.1) = true) then (some (false , ()))
 else (Option.bind (S.l_toLine ((x.1.1 , x.1.2) , (true , ()))) (fun (y12 : ((((List ByteArray) × Nat) × ((List ByteArray) × Nat)) × Unit)) => (Option.bind (S.l_toLine ((x.2.1.1 , x.2.1.2) , (true , ()))) (fun (y13 : ((((List ByteArray) × Nat) × ((List ByteArray) × Nat)) × Unit)) => (Option.bind (S.i_SameLine (((List.take y12.1.1.2 y12.1.1.1) , (List.take y12.1.2.2 y12.1.2.1)) , (((List.take y13.1.1.2 y13.1.1.1) , (List.take y13.1.2.2 y13.1.2.1)) , ()))) (fun (y14 : (Bool × Unit)) => (if ((!(y14.1 == y4.1)) = true) then (some (false , ()))
 else (some (true , ()))))))))))))))))))))))))))))))))))))))
def S.l_FnExactSameLine (x : (((List ByteArray) × (List ByteArray)) × (((List ByteArray) × (List ByteArray)) × Unit))) : (Option (Bool × Unit)) := P.l_FnExactSameLine 0 x
theorem S.l_FnExactSameLine_ok (x : (((List ByteArray) × (List ByteArray)) × (((List ByteArray) × (List ByteArray)) × Unit))) (r : _) (h : S.l_FnExactSameLine x = some r) : ∃ k, P.l_FnExactSameLine k x = some r := ⟨0, h⟩
end Go.Cm
end
