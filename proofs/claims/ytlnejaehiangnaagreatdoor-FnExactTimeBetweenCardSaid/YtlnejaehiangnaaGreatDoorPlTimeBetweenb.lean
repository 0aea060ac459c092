import Derived.Test.YtlnejaehiangnaaGreatDoorPlTimeBetweena
set_option linter.unusedVariables false
set_option maxRecDepth 100000
noncomputable section
namespace Go.Cm
def P.s_l01Sum (k : Nat) (x : ((Bool × ((List Int) × (List Int))) × ((Bool × ((List Int) × (List Int))) × Unit))) : (Option ((Bool × ((List Int) × (List Int))) × Unit)) :=
 (Option.bind (S.s_l01NatMul (x.1.2.1 , (x.2.1.2.2 , ()))) (fun (y0 : ((List Int) × Unit)) => (Option.bind (S.s_l01NatMul (x.2.1.2.1 , (x.1.2.2 , ()))) (fun (y1 : ((List Int) × Unit)) => (Option.bind (S.s_l01NatMul (x.1.2.2 , (x.2.1.2.2 , ()))) (fun (y2 : ((List Int) × Unit)) => (if ((x.1.1 == x.2.1.1) = true) then (Option.bind (S.s_l01NatAdd (y0.1 , (y1.1 , ()))) (fun (y3 : ((List Int) × Unit)) => (Option.bind (S.s_l01Make (x.1.1 , (y3.1 , (y2.1 , ())))) (fun (y4 : ((Bool × ((List Int) × (List Int))) × Unit)) => (some ((y4.1.1 , (y4.1.2.1 , y4.1.2.2)) , ()))))))
 else (Option.bind (S.s_l01Cmp (y0.1 , (y1.1 , ()))) (fun (y5 : (Int × Unit)) => (if ((decide (y5.1 ≥ (0 : Int))) = true) then (Option.bind (S.s_l01NatLess (y0.1 , (y1.1 , ()))) (fun (y6 : ((List Int) × Unit)) => (Option.bind (S.s_l01Make (x.1.1 , (y6.1 , (y2.1 , ())))) (fun (y7 : ((Bool × ((List Int) × (List Int))) × Unit)) => (some ((y7.1.1 , (y7.1.2.1 , y7.1.2.2)) , ()))))))
 else (Option.bind (S.s_l01NatLess (y1.1 , (y0.1 , ()))) (fun (y8 : ((List Int) × Unit)) => (Option.bind (S.s_l01Make (x.2.1.1 , (y8.1 , (y2.1 , ())))) (fun (y9 : ((Bool × ((List Int) × (List Int))) × Unit)) => (some ((y9.1.1 , (y9.1.2.1 , y9.1.2.2)) , ()))))))))))))))))
theorem sa_mul (p q : Nat) (hp : (nd B10 p).length ≤ 1000000) (hq : (nd B10 q).length ≤ 1000000) : S.s_l01NatMul (nd B10 p, (nd B10 q, ())) = some (nd B10 (p * q), ()) := by
  unfold S.s_l01NatMul
  dsimp only
  rw [if_pos ⟨dig_nd B10_le _, dig_nd B10_le _, by omega, by omega⟩, dval_nd B10_le, dval_nd B10_le]
theorem sa_add (p q : Nat) (hp : (nd B10 p).length ≤ 1000000) (hq : (nd B10 q).length ≤ 1000000) : S.s_l01NatAdd (nd B10 p, (nd B10 q, ())) = some (nd B10 (p + q), ()) := by
  unfold S.s_l01NatAdd
  dsimp only
  rw [if_pos ⟨canon_nd B10_le _, canon_nd B10_le _, by omega, by omega⟩, dval_nd B10_le, dval_nd B10_le]
theorem sa_sub (p q : Nat) (hp : (nd B10 p).length ≤ 1000000) (h : q ≤ p) : S.s_l01NatLess (nd B10 p, (nd B10 q, ())) = some (nd B10 (p - q), ()) := by
  unfold S.s_l01NatLess
  dsimp only
  rw [dval_nd B10_le, dval_nd B10_le, if_pos ⟨dig_nd B10_le _, dig_nd B10_le _, nd_shorter' B10_le h, h, by omega⟩]
theorem sa_cmp (p q : Nat) (hp : (nd B10 p).length ≤ 1000000) : S.s_l01Cmp (nd B10 p, (nd B10 q, ())) = some (cmpN p q, ()) := by
  unfold S.s_l01Cmp
  dsimp only
  rw [if_pos ⟨canon_nd B10_le _, canon_nd B10_le _, by omega⟩, dval_nd B10_le, dval_nd B10_le]
theorem sa_low (n : Bool) (p q : Nat) (hp : (nd B10 p).length ≤ 1000000) (hq : (nd B10 q).length ≤ 1000000) (h0 : q ≠ 0) : S.s_l01Make (n, (nd B10 p, (nd B10 q, ()))) = some (rp B10 (lowN n p q), ()) := by
  unfold S.s_l01Make
  dsimp only
  rw [if_pos ⟨canon_nd B10_le _, canon_nd B10_le _, nd_ne B10_le h0, by omega, by omega⟩, dval_nd B10_le, dval_nd B10_le]
def S.s_l01Sum (x : ((Bool × ((List Int) × (List Int))) × ((Bool × ((List Int) × (List Int))) × Unit))) : (Option ((Bool × ((List Int) × (List Int))) × Unit)) := if lowb B10 100000 x.1 = true ∧ lowb B10 100000 x.2.1 = true then some (rp B10 (addQ (rv B10 x.1) (rv B10 x.2.1)), ()) else none
theorem S.s_l01Sum_ok (x : ((Bool × ((List Int) × (List Int))) × ((Bool × ((List Int) × (List Int))) × Unit))) (r : _) (h : S.s_l01Sum x = some r) : ∃ k, P.s_l01Sum k x = some r := by
  obtain ⟨x, y, u⟩ := x
  unfold S.s_l01Sum at h
  dsimp only at h
  split at h
  case isFalse => cases h
  rename_i hc
  obtain ⟨hx, hy⟩ := hc
  cases h
  rw [lowb_iff] at hx hy
  obtain ⟨hx, lx⟩ := hx
  obtain ⟨hy, ly⟩ := hy
  obtain ⟨n1, p1, q1, rfl, x1, x2⟩ := rok_nd hx
  obtain ⟨n2, p2, q2, rfl, y1, y2⟩ := rok_nd hy
  rw [rv_nd B10_le] at lx ly ⊢
  rw [rv_nd B10_le]
  have hq1 : q1 ≠ 0 := by have : 0 < q1 := lx.1; omega
  have hq2 : q2 ≠ 0 := by have : 0 < q2 := ly.1; omega
  have m1 := nd_mul_len B10_le p1 q2
  have m2 := nd_mul_len B10_le p2 q1
  have m3 := nd_mul_len B10_le q1 q2
  have hq0 : q1 * q2 ≠ 0 := Nat.mul_ne_zero hq1 hq2
  refine ⟨0, ?_⟩
  unfold P.s_l01Sum
  dsimp only
  rw [sa_mul p1 q2 (by omega) (by omega), Option.bind_some, sa_mul p2 q1 (by omega) (by omega), Option.bind_some, sa_mul q1 q2 (by omega) (by omega), Option.bind_some]
  dsimp only
  unfold addQ
  dsimp only
  have a1 := nd_add_len B10_le (p1 * q2) (p2 * q1)
  have a2 := nd_sub_len B10_le (p1 * q2) (p2 * q1)
  have a3 := nd_sub_len B10_le (p2 * q1) (p1 * q2)
  by_cases hn : n1 = n2
  · rw [if_pos (by simpa using hn), if_pos hn, sa_add _ _ (by omega) (by omega), Option.bind_some, sa_low n1 _ _ (by omega) (by omega) hq0, Option.bind_some]
  · rw [if_neg (by simpa using hn), if_neg hn, sa_cmp _ _ (by omega), Option.bind_some]
    dsimp only
    have hlt := cmpN_lt (a := p1 * q2) (b := p2 * q1)
    by_cases hle : p2 * q1 ≤ p1 * q2
    · have hge : cmpN (p1 * q2) (p2 * q1) ≥ 0 := by
        rcases Int.lt_or_le (cmpN (p1 * q2) (p2 * q1)) 0 with g | g
        · have := hlt.1 g
          omega
        · exact g
      rw [if_pos (decide_eq_true hge), if_pos hle, sa_sub _ _ (by omega) hle, Option.bind_some, sa_low n1 _ _ (by omega) (by omega) hq0, Option.bind_some]
    · have hge : ¬ cmpN (p1 * q2) (p2 * q1) ≥ 0 := by
        have := hlt.2 (Nat.lt_of_not_le hle)
        omega
      rw [if_neg (by simpa using hge), if_neg hle, sa_sub _ _ (by omega) (Nat.le_of_lt (Nat.lt_of_not_le hle)), Option.bind_some, sa_low n2 _ _ (by omega) (by omega) hq0, Option.bind_some]
theorem rs_add {x y : Q3} {m n : Nat} (hx : low x) (bx : below m x) (hy : low y) (bY : below n y) (hm : m ≤ 800000) (hn : n ≤ 800000) : S.s_l01Sum (rp B10 x, (rp B10 y, ())) = some (rp B10 (addQ x y), ()) := by
  unfold S.s_l01Sum
  dsimp only
  rw [if_pos ⟨lowb_rp9 (by decide) hx bx (by omega), lowb_rp9 (by decide) hy bY (by omega)⟩, rv_rp B10_le, rv_rp B10_le]
abbrev P.s_l01Cut_b0  (x1 : (Int × (ByteArray × (Int × ((List ByteArray) × (Int × Unit)))))) (g2 : (Int × (ByteArray × (Int × ((List ByteArray) × (Int × Unit))))) → Option ((List ByteArray) × Unit)) : Option ((List ByteArray) × Unit) :=
 (if ((decide (x1.1 ≤ (((ByteArray.size x1.2.1) : Nat) : Int))) = true) then (if ((x1.1 == (((ByteArray.size x1.2.1) : Nat) : Int)) = true) then (if ((decide ((0 : Int) ≤ x1.1)) = true) then (if ((decide (x1.1 ≤ (((ByteArray.size x1.2.1) : Nat) : Int))) = true) then (if ((decide ((0 : Int) ≤ x1.2.2.2.2.1)) = true) then (if ((decide (x1.2.2.2.2.1 ≤ x1.1)) = true) then (if ((decide ((((List.length x1.2.2.2.1) + (List.length ((ByteArray.extract x1.2.1 (Int.toNat x1.2.2.2.2.1) (Int.toNat x1.1)) :: ([] : List ByteArray)))) * (16 : Nat)) ≤ (140737488355328 : Nat))) = true) then (g2 ((Go.IntKind.wrap Go.IntKind.i64 (x1.1 + (1 : Int))) , (x1.2.1 , (x1.2.2.1 , ((x1.2.2.2.1 ++ ((ByteArray.extract x1.2.1 (Int.toNat x1.2.2.2.2.1) (Int.toNat x1.1)) :: ([] : List ByteArray))) , ((Go.IntKind.wrap Go.IntKind.i64 (x1.1 + (1 : Int))) , ()))))))
 else none)
 else none)
 else none)
 else none)
 else none)
 else (if ((decide ((0 : Int) ≤ x1.1)) = true) then (if ((decide (x1.1 < (((ByteArray.size x1.2.1) : Nat) : Int))) = true) then (if (((byteAt x1.2.1 x1.1) == x1.2.2.1) = true) then (if ((decide ((0 : Int) ≤ x1.1)) = true) then (if ((decide (x1.1 ≤ (((ByteArray.size x1.2.1) : Nat) : Int))) = true) then (if ((decide ((0 : Int) ≤ x1.2.2.2.2.1)) = true) then (if ((decide (x1.2.2.2.2.1 ≤ x1.1)) = true) then (if ((decide ((((List.length x1.2.2.2.1) + (List.length ((ByteArray.extract x1.2.1 (Int.toNat x1.2.2.2.2.1) (Int.toNat x1.1)) :: ([] : List ByteArray)))) * (16 : Nat)) ≤ (140737488355328 : Nat))) = true) then (g2 ((Go.IntKind.wrap Go.IntKind.i64 (x1.1 + (1 : Int))) , (x1.2.1 , (x1.2.2.1 , ((x1.2.2.2.1 ++ ((ByteArray.extract x1.2.1 (Int.toNat x1.2.2.2.2.1) (Int.toNat x1.1)) :: ([] : List ByteArray))) , ((Go.IntKind.wrap Go.IntKind.i64 (x1.1 + (1 : Int))) , ()))))))
 else none)
 else none)
 else none)
 else none)
 else none)
 else (g2 ((Go.IntKind.wrap Go.IntKind.i64 (x1.1 + (1 : Int))) , (x1.2.1 , (x1.2.2.1 , (x1.2.2.2.1 , (x1.2.2.2.2.1 , ())))))))
 else none)
 else none))
 else (some (x1.2.2.2.1 , ())))
def P.s_l01Cut (k : Nat) (x : (ByteArray × (Int × Unit))) : (Option ((List ByteArray) × Unit)) :=
 (loopP (X := (Int × (ByteArray × (Int × ((List ByteArray) × (Int × Unit)))))) (R := ((List ByteArray) × Unit)) (P.s_l01Cut_b0 ) k ((0 : Int) , (x.1 , (x.2.1 , (([] : List ByteArray) , ((0 : Int) , ()))))))
/-- What a loop that cuts at c has laid aside before i, and where the next part begins. -/
def cutUp (s : ByteArray) (c : Int) : Nat → List ByteArray × Nat
  | 0 => ([], 0)
  | i + 1 => if i = s.size ∨ byteAt s (i : Int) = c then ((cutUp s c i).1 ++ [s.extract (cutUp s c i).2 i], i + 1) else cutUp s c i
theorem cutUp_le (s : ByteArray) (c : Int) (i : Nat) : (cutUp s c i).1.length ≤ i ∧ (cutUp s c i).2 ≤ i := by
  induction i with
  | zero => exact ⟨Nat.le_refl _, Nat.le_refl _⟩
  | succ i ih =>
    unfold cutUp
    split
    · refine ⟨?_, Nat.le_refl _⟩
      simp
      omega
    · omega
def S.s_l01Cut (x : (ByteArray × (Int × Unit))) : (Option ((List ByteArray) × Unit)) := if x.1.size ≤ 1000000 then some ((cutUp x.1 x.2.1 (x.1.size + 1)).1, ()) else none
theorem S.s_l01Cut_ok (x : (ByteArray × (Int × Unit))) (r : _) (h : S.s_l01Cut x = some r) : ∃ k, P.s_l01Cut k x = some r := by
  obtain ⟨s, c, u⟩ := x
  unfold S.s_l01Cut at h
  dsimp only at h
  split at h
  case isFalse => cases h
  rename_i hs
  cases h
  refine ⟨s.size + 2, ?_⟩
  unfold P.s_l01Cut
  dsimp only
  have key := loop_up0 (k := s.size + 2) (b := P.s_l01Cut_b0) (n := s.size + 1) (st := fun i => ((i : Int), s, c, (cutUp s c i).1, ((cutUp s c i).2 : Int), ())) (F := fun i => some ((cutUp s c (s.size + 1)).1, ())) (fun i g hi hg => by
    unfold P.s_l01Cut_b0
    dsimp only at hg ⊢
    obtain ⟨q1, q2⟩ := cutUp_le s c i
    have e1 : (i : Int) ≤ (s.size : Int) := by omega
    have e2 : (0 : Int) ≤ (i : Int) := by omega
    have e3 : (0 : Int) ≤ ((cutUp s c i).2 : Int) := by omega
    have e4 : ((cutUp s c i).2 : Int) ≤ (i : Int) := by omega
    have e5 : ((cutUp s c i).1.length + ([s.extract (cutUp s c i).2 i] : List ByteArray).length) * 16 ≤ 140737488355328 := by simp; omega
    rw [cutUp] at hg
    by_cases hq : i = s.size
    · rw [if_pos (.inl hq)] at hg
      rw [← hg]
      have e6 : ((i : Int) == (s.size : Int)) = true := by simp [hq]
      simp only [e1, e2, e3, e4, e6, decide_true, if_true, Int.toNat_natCast]
      rw [if_pos (decide_eq_true e5), wr (by omega) (by omega)]
      rfl
    · have e6 : ¬ ((i : Int) == (s.size : Int)) = true := by simp; omega
      have e7 : (i : Int) < (s.size : Int) := by omega
      rw [if_pos (decide_eq_true e1), if_neg e6, if_pos (decide_eq_true e2), if_pos (decide_eq_true e7)]
      by_cases hb : byteAt s (i : Int) = c
      · rw [if_pos (.inr hb)] at hg
        rw [← hg, if_pos (by simp [hb])]
        simp only [e1, e2, e3, e4, decide_true, if_true, Int.toNat_natCast]
        rw [if_pos (decide_eq_true e5), wr (by omega) (by omega)]
        rfl
      · rw [if_neg (fun z => z.elim hq hb)] at hg
        rw [← hg, if_neg (by simp [hb]), wr (by omega) (by omega)]
        rfl) (fun g => by
    unfold P.s_l01Cut_b0
    dsimp only
    rw [if_neg (by simp; omega)]) (by omega)
  exact key
theorem cutUp_pieces (s : ByteArray) (c : UInt8) : (cutUp s (c.toNat : Int) (s.size + 1)).1.map (·.data.toList) = pieces c s.data.toList := by
  have hsz : s.size = s.data.toList.length := by rw [Array.length_toList]; rfl
  have hex : ∀ a b, (s.extract a b).data.toList = (s.data.toList.take b).drop a := by
    intro a b
    simp [ByteArray.data_extract, Array.toList_extract, List.extract_eq_take_drop, List.drop_take]
  have key : ∀ i, i ≤ s.size → pieces c s.data.toList = (cutUp s (c.toNat : Int) i).1.map (·.data.toList) ++ glue ((s.data.toList.take i).drop (cutUp s (c.toNat : Int) i).2) (pieces c (s.data.toList.drop i)) := by
    intro i
    induction i with
    | zero =>
      intro _
      simp [cutUp, glue_nil (pieces_ne c _)]
    | succ i ih =>
      intro hi
      rw [ih (by omega)]
      obtain ⟨q1, q2⟩ := cutUp_le s (c.toNat : Int) i
      have hi' : i < s.data.toList.length := by omega
      have hb : byteAt s (i : Int) = (s.data.toList[i].toNat : Int) := by
        unfold byteAt
        rw [getD_cast _ i _ hi']
      rw [List.drop_eq_getElem_cons hi', cutUp, pieces]
      by_cases hc : s.data.toList[i] = c
      · rw [if_pos hc, if_pos (.inr (by rw [hb, hc]))]
        simp only [List.map_append, List.map_cons, List.map_nil, hex, List.append_assoc]
        congr 1
        rw [show List.drop (i + 1) (List.take (i + 1) s.data.toList) = [] from List.drop_eq_nil_of_le (by simp; omega), glue_nil (pieces_ne c _)]
        simp [glue]
      · rw [if_neg hc, if_neg (by
          rw [hb]
          rintro (h | h)
          · omega
          · exact hc (UInt8.toNat_inj.1 (by omega)))]
        rw [glue_glue, ← List.take_append_getElem hi', List.drop_append_of_le_length (by simp; omega)]
  have h := key s.size (Nat.le_refl _)
  rw [h, cutUp, if_pos (.inl rfl)]
  simp only [List.map_append, List.map_cons, List.map_nil, hex]
  congr 1
  rw [show List.drop s.size s.data.toList = [] from List.drop_eq_nil_of_le (by omega)]
  simp [pieces, glue]
abbrev P.s_l01NatRead_b3 (g2 : ((Int × (ByteArray × ((List Int) × Unit))) → (Option ((List Int) × Unit)))) (x4 : (Int × (Int × (Int × (ByteArray × ((List Int) × Unit)))))) (g5 : (Int × (Int × (Int × (ByteArray × ((List Int) × Unit))))) → Option ((List Int) × Unit)) : Option ((List Int) × Unit) :=
 (if ((decide (x4.1 < x4.2.1)) = true) then (if ((decide ((0 : Int) ≤ x4.1)) = true) then (if ((decide (x4.1 < (((ByteArray.size x4.2.2.2.1) : Nat) : Int))) = true) then (g5 ((Go.IntKind.wrap Go.IntKind.i64 (x4.1 + (1 : Int))) , (x4.2.1 , ((Go.IntKind.wrap Go.IntKind.i64 ((Go.IntKind.wrap Go.IntKind.i64 ((10 : Int) * x4.2.2.1)) + (Go.IntKind.wrap Go.IntKind.i64 (Go.IntKind.wrap Go.IntKind.u8 ((byteAt x4.2.2.2.1 x4.1) - (48 : Int)))))) , (x4.2.2.2.1 , (x4.2.2.2.2.1 , ()))))))
 else none)
 else none)
 else (if ((decide ((((List.length x4.2.2.2.2.1) + (List.length (x4.2.2.1 :: ([] : List Int)))) * (8 : Nat)) ≤ (140737488355328 : Nat))) = true) then (g2 ((Go.IntKind.wrap Go.IntKind.i64 (x4.2.1 - (9 : Int))) , (x4.2.2.2.1 , ((x4.2.2.2.2.1 ++ (x4.2.2.1 :: ([] : List Int))) , ()))))
 else none))
abbrev P.s_l01NatRead_b6 (g2 : ((Int × (ByteArray × ((List Int) × Unit))) → (Option ((List Int) × Unit)))) (x7 : (Int × (Int × (Int × (ByteArray × ((List Int) × Unit)))))) (g8 : (Int × (Int × (Int × (ByteArray × ((List Int) × Unit))))) → Option ((List Int) × Unit)) : Option ((List Int) × Unit) :=
 (if ((decide (x7.1 < x7.2.1)) = true) then (if ((decide ((0 : Int) ≤ x7.1)) = true) then (if ((decide (x7.1 < (((ByteArray.size x7.2.2.2.1) : Nat) : Int))) = true) then (g8 ((Go.IntKind.wrap Go.IntKind.i64 (x7.1 + (1 : Int))) , (x7.2.1 , ((Go.IntKind.wrap Go.IntKind.i64 ((Go.IntKind.wrap Go.IntKind.i64 ((10 : Int) * x7.2.2.1)) + (Go.IntKind.wrap Go.IntKind.i64 (Go.IntKind.wrap Go.IntKind.u8 ((byteAt x7.2.2.2.1 x7.1) - (48 : Int)))))) , (x7.2.2.2.1 , (x7.2.2.2.2.1 , ()))))))
 else none)
 else none)
 else (if ((decide ((((List.length x7.2.2.2.2.1) + (List.length (x7.2.2.1 :: ([] : List Int)))) * (8 : Nat)) ≤ (140737488355328 : Nat))) = true) then (g2 ((Go.IntKind.wrap Go.IntKind.i64 (x7.2.1 - (9 : Int))) , (x7.2.2.2.1 , ((x7.2.2.2.2.1 ++ (x7.2.2.1 :: ([] : List Int))) , ()))))
 else none))
abbrev P.s_l01NatRead_b0 (k : Nat) (x1 : (Int × (ByteArray × ((List Int) × Unit)))) (g2 : (Int × (ByteArray × ((List Int) × Unit))) → Option ((List Int) × Unit)) : Option ((List Int) × Unit) :=
 (if ((decide (x1.1 > (0 : Int))) = true) then (if ((decide (x1.1 > (9 : Int))) = true) then (loopP (X := (Int × (Int × (Int × (ByteArray × ((List Int) × Unit)))))) (R := ((List Int) × Unit)) (P.s_l01NatRead_b3 g2) k ((Go.IntKind.wrap Go.IntKind.i64 (x1.1 - (9 : Int))) , (x1.1 , ((0 : Int) , (x1.2.1 , (x1.2.2.1 , ()))))))
 else (loopP (X := (Int × (Int × (Int × (ByteArray × ((List Int) × Unit)))))) (R := ((List Int) × Unit)) (P.s_l01NatRead_b6 g2) k ((0 : Int) , (x1.1 , ((0 : Int) , (x1.2.1 , (x1.2.2.1 , ())))))))
 else (Option.bind (S.s_l01Trim (x1.2.2.1 , ())) (fun (y9 : ((List Int) × Unit)) => (some (y9.1 , ())))))
def P.s_l01NatRead (k : Nat) (x : (ByteArray × Unit)) : (Option ((List Int) × Unit)) :=
 (loopP (X := (Int × (ByteArray × ((List Int) × Unit)))) (R := ((List Int) × Unit)) (P.s_l01NatRead_b0 k) k ((((ByteArray.size x.1) : Nat) : Int) , (x.1 , (([] : List Int) , ()))))
theorem sr_inner (g : ((Int × (ByteArray × ((List Int) × Unit))) → (Option ((List Int) × Unit)))) (s : ByteArray) (l : List UInt8) (hL : s.data.toList = l) (hd : allD l = true) (a n : Nat) (hn : n ≤ 9) (han : a + n ≤ l.length) (hl : l.length ≤ 1000000000) (out : List Int) (ho : out.length ≤ 1000000000) (k : Nat) (hk : n < k) :
    loopP (P.s_l01NatRead_b3 g) k ((a : Int), (((a + n : Nat) : Int), ((0 : Int), (s, (out, ()))))) = g (((a + n : Nat) : Int) - 9, (s, (out ++ [((dv ((l.drop a).take n) : Nat) : Int)], ()))) := by
  have hs : s.size = l.length := by rw [← hL, Array.length_toList]; rfl
  have key := loop_up0 (k := k) (b := P.s_l01NatRead_b3 g) (n := n) (st := fun i => (((a + i : Nat) : Int), ((a + n : Nat) : Int), ((dv ((l.drop a).take i) : Nat) : Int), s, out, ())) (F := fun i => g (((a + n : Nat) : Int) - 9, (s, (out ++ [((dv ((l.drop a).take n) : Nat) : Int)], ())))) (fun i g' hi hg' => by
    unfold P.s_l01NatRead_b3
    dsimp only at hg' ⊢
    refine Eq.trans ?_ hg'
    have hi2 : i < (l.drop a).length := by rw [List.length_drop]; omega
    have e1 : ((a + i : Nat) : Int) < ((a + n : Nat) : Int) := by omega
    have e2 : (0 : Int) ≤ ((a + i : Nat) : Int) := by omega
    have e3 : ((a + i : Nat) : Int) < (l.length : Int) := by omega
    have hb : byteAt s ((a + i : Nat) : Int) = (((l.drop a)[i]).toNat : Int) := by
      unfold byteAt
      rw [hL, getD_cast l (a + i) _ (by omega), List.getElem_drop]
    have hc := allD_get (allD_drop hd a) hi2
    have hv := dv_lt (allD_take (allD_drop hd a) i)
    have hp : 10 ^ ((l.drop a).take i).length ≤ 10 ^ 9 := Nat.pow_le_pow_right (by decide) (by simp; omega)
    have hp9 : (10 : Nat) ^ 9 = 1000000000 := by decide
    rw [hs, hb, wr (x := ((a + i : Nat) : Int) + 1) (by omega) (by omega)]
    simp only [e1, e2, e3, decide_true, if_true]
    rw [← List.take_append_getElem hi2, dv_snoc]
    generalize (l.drop a)[i].toNat = c at *
    generalize dv ((l.drop a).take i) = v at *
    have h8 : Go.IntKind.wrap Go.IntKind.u8 ((c : Int) - 48) = (c : Int) - 48 := IntWalk.u8_in _ (by omega)
    rw [h8, wr (x := (c : Int) - 48) (by omega) (by omega), wr (x := 10 * (v : Int)) (by omega) (by omega), wr (x := 10 * (v : Int) + ((c : Int) - 48)) (by omega) (by omega), show 10 * (v : Int) + ((c : Int) - 48) = ((10 * v + (c - 48) : Nat) : Int) by omega]
    rfl) (fun g' => by
    unfold P.s_l01NatRead_b3
    dsimp only
    have hcap : (out.length + [((dv ((l.drop a).take n) : Nat) : Int)].length) * 8 ≤ 140737488355328 := by
      rw [List.length_singleton]
      omega
    rw [if_neg (by simp), if_pos (decide_eq_true hcap), wr (by omega) (by omega)]) hk
  exact key
theorem sr_outer (s : ByteArray) (l : List UInt8) (hL : s.data.toList = l) (hd : allD l = true) (hl : l.length ≤ 1000000000) (K : Nat) (hK : 9 < K) (n : Nat) : ∀ (to : Int) (out : List Int) (k : Nat), to ≤ (n : Int) → -9 ≤ to → to ≤ (l.length : Int) → n < k → dig B10 out = true → out.length + n ≤ l.length → dval B10 out + B10 ^ out.length * dv (l.take to.toNat) = dv l →
    loopP (P.s_l01NatRead_b0 K) k (to, (s, (out, ()))) = some (nd B10 (dv l), ()) := by
  induction n using Nat.strongRecOn with
  | ind n ih =>
    intro to out k hto hlo htl hk hdo hol hv
    obtain ⟨k, rfl⟩ : ∃ j, k = j + 1 := ⟨k - 1, by omega⟩
    rw [loopP_succ]
    unfold P.s_l01NatRead_b0
    dsimp only
    by_cases h0 : to > 0
    · rw [if_pos (decide_eq_true h0)]
      obtain ⟨m, rfl⟩ : ∃ m : Nat, to = (m : Int) := ⟨to.toNat, by omega⟩
      rw [Int.toNat_natCast] at hv
      have hB9 : B10 = 10 ^ 9 := by decide
      have hstep : ∀ a c : Nat, c ≤ 9 → a + c = m → (c = 9 ∨ a = 0) → loopP (P.s_l01NatRead_b3 (loopP (P.s_l01NatRead_b0 K) k)) K ((a : Int), ((m : Int), ((0 : Int), (s, (out, ()))))) = some (nd B10 (dv l), ()) := by
        intro a c hc9 hm hor
        have hin := sr_inner (loopP (P.s_l01NatRead_b0 K) k) s l hL hd a c hc9 (by omega) hl out (by omega) K (by omega)
        rw [hm] at hin
        rw [hin]
        have htk : l.take m = l.take a ++ (l.drop a).take c := by rw [← hm, List.take_add]
        have hpc : ((l.drop a).take c).length = c := by simp; omega
        have hpd := dv_lt (allD_take (allD_drop hd a) c)
        rw [hpc] at hpd
        have hp9 : 10 ^ c ≤ 10 ^ 9 := Nat.pow_le_pow_right (by decide) hc9
        have hpB : dv ((l.drop a).take c) < B10 := by rw [hB9]; omega
        have hta : l.take ((m : Int) - 9).toNat = l.take a := by
          rcases hor with g | g
          · rw [show ((m : Int) - 9).toNat = a by omega]
          · subst g
            rw [show ((m : Int) - 9).toNat = 0 by omega]
        refine ih (n - 1) (by omega) _ _ k (by omega) (by omega) (by omega) (by omega) ?_ (by rw [List.length_append, List.length_singleton]; omega) ?_
        · rw [dig_append, hdo, Bool.true_and, dig_cons]
          exact ⟨⟨by omega, by omega⟩, rfl⟩
        · rw [hta, dval_append, List.length_append, List.length_singleton, Nat.pow_succ, ← hv, htk, dv_append, hpc]
          have e1 : dval B10 [((dv ((l.drop a).take c) : Nat) : Int)] = dv ((l.drop a).take c) := by rw [dval, Int.toNat_natCast]; rfl
          rw [e1]
          rcases hor with g | g
          · rw [g, ← hB9, Nat.mul_assoc, Nat.mul_add, Nat.mul_comm B10]
            omega
          · subst g
            have : dv (l.take 0) = 0 := by rw [List.take_zero]; rfl
            rw [this, Nat.mul_zero, Nat.zero_mul, Nat.zero_add]
            omega
      by_cases h9 : (m : Int) > 9
      · rw [if_pos (decide_eq_true h9), wr (by omega) (by omega), show (m : Int) - 9 = ((m - 9 : Nat) : Int) by omega]
        exact hstep (m - 9) 9 (Nat.le_refl _) (by omega) (.inl rfl)
      · rw [if_neg (by simpa using h9)]
        exact hstep 0 m (by omega) (by omega) (.inr rfl)
    · rw [if_neg (by simpa using h0)]
      have h00 : to.toNat = 0 := by omega
      rw [h00, List.take_zero, show dv [] = 0 from rfl, Nat.mul_zero, Nat.add_zero] at hv
      unfold S.s_l01Trim
      dsimp only
      rw [if_pos ⟨hdo, by omega⟩, Option.bind_some, hv]
def S.s_l01NatRead (x : (ByteArray × Unit)) : (Option ((List Int) × Unit)) := if allD x.1.data.toList = true ∧ x.1.data.toList.length ≤ 1000000000 then some (nd B10 (dv x.1.data.toList), ()) else none
theorem S.s_l01NatRead_ok (x : (ByteArray × Unit)) (r : _) (h : S.s_l01NatRead x = some r) : ∃ k, P.s_l01NatRead k x = some r := by
  obtain ⟨s, u⟩ := x
  unfold S.s_l01NatRead at h
  dsimp only at h
  split at h
  case isFalse => cases h
  rename_i hc
  obtain ⟨hd, hl⟩ := hc
  cases h
  have hs : s.size = s.data.toList.length := by rw [Array.length_toList]; rfl
  refine ⟨s.data.toList.length + 10, ?_⟩
  unfold P.s_l01NatRead
  dsimp only
  rw [hs]
  exact sr_outer s _ rfl hd hl _ (by omega) s.data.toList.length _ [] _ (Int.le_refl _) (by omega) (Int.le_refl _) (by omega) rfl (by simp) (by rw [Int.toNat_natCast, List.take_length]; simp [dval])
abbrev P.s_l01Digits_b0  (x1 : (Int × (ByteArray × Unit))) (g2 : (Int × (ByteArray × Unit)) → Option (Bool × Unit)) : Option (Bool × Unit) :=
 (if ((decide (x1.1 < (((ByteArray.size x1.2.1) : Nat) : Int))) = true) then (if ((decide ((0 : Int) ≤ x1.1)) = true) then (if ((decide (x1.1 < (((ByteArray.size x1.2.1) : Nat) : Int))) = true) then (if ((decide ((byteAt x1.2.1 x1.1) < (48 : Int))) = true) then (some (false , ()))
 else (if ((decide ((0 : Int) ≤ x1.1)) = true) then (if ((decide (x1.1 < (((ByteArray.size x1.2.1) : Nat) : Int))) = true) then (if ((decide ((byteAt x1.2.1 x1.1) > (57 : Int))) = true) then (some (false , ()))
 else (g2 ((Go.IntKind.wrap Go.IntKind.i64 (x1.1 + (1 : Int))) , (x1.2.1 , ()))))
 else none)
 else none))
 else none)
 else none)
 else (if ((decide ((((ByteArray.size x1.2.1) : Nat) : Int) ≥ (1 : Int))) = true) then (if ((decide ((((ByteArray.size x1.2.1) : Nat) : Int) ≤ (200 : Int))) = true) then (if (((((ByteArray.size x1.2.1) : Nat) : Int) == (1 : Int)) = true) then (some (true , ()))
 else (if ((decide ((0 : Int) < (((ByteArray.size x1.2.1) : Nat) : Int))) = true) then (some (((byteAt x1.2.1 (0 : Int)) != (48 : Int)) , ()))
 else none))
 else (some (false , ())))
 else (some (false , ()))))
def P.s_l01Digits (k : Nat) (x : (ByteArray × Unit)) : (Option (Bool × Unit)) :=
 (loopP (X := (Int × (ByteArray × Unit))) (R := (Bool × Unit)) (P.s_l01Digits_b0 ) k ((0 : Int) , (x.1 , ())))
def S.s_l01Digits (x : (ByteArray × Unit)) : (Option (Bool × Unit)) := if x.1.size ≤ 281474976710656 then some (okN x.1.data.toList, ()) else none
theorem S.s_l01Digits_ok (x : (ByteArray × Unit)) (r : _) (h : S.s_l01Digits x = some r) : ∃ k, P.s_l01Digits k x = some r := by
  obtain ⟨s, u⟩ := x
  unfold S.s_l01Digits at h
  dsimp only at h
  split at h
  case isFalse => cases h
  rename_i hsz
  cases h
  have hs : s.size = s.data.toList.length := by rw [Array.length_toList]; rfl
  rw [hs] at hsz
  refine ⟨s.data.toList.length + 1, ?_⟩
  unfold P.s_l01Digits
  dsimp only
  generalize hL : s.data.toList = l at *
  have key := loop_up0 (k := l.length + 1) (b := P.s_l01Digits_b0) (n := l.length) (st := fun i => ((i : Int), s, ())) (F := fun i => some (allD (l.drop i) && okR l, ())) (fun i g hi hg => by
    unfold P.s_l01Digits_b0
    dsimp only at hg ⊢
    have e1 : (i : Int) < (l.length : Int) := by omega
    have e2 : (0 : Int) ≤ (i : Int) := by omega
    have hb : byteAt s (i : Int) = (l[i].toNat : Int) := by
      unfold byteAt
      rw [hL, getD_cast l i _ hi]
    have ha : allD (l.drop i) = (isD l[i] && allD (l.drop (i + 1))) := by
      rw [List.drop_eq_getElem_cons hi]
      rfl
    rw [hs, hb, wr (x := (i : Int) + 1) (by omega) (by omega), ha]
    simp only [e1, e2, decide_true, if_true]
    unfold isD
    by_cases c1 : 48 ≤ l[i].toNat
    · rw [if_neg (by simp; omega)]
      by_cases c2 : l[i].toNat ≤ 57
      · rw [if_neg (by simp; omega), decide_eq_true ⟨c1, c2⟩, Bool.true_and]
        exact hg
      · rw [if_pos (decide_eq_true (by omega)), decide_eq_false (fun q => c2 q.2)]
        rfl
    · rw [if_pos (decide_eq_true (by omega)), decide_eq_false (fun q => c1 q.1)]
      rfl) (fun g => by
    unfold P.s_l01Digits_b0
    dsimp only
    rw [hs, if_neg (by simp), List.drop_length, show allD [] = true from rfl, Bool.true_and]
    unfold okR
    by_cases h1 : l = []
    · subst h1
      rfl
    · have hpos : 0 < l.length := List.length_pos_iff.2 h1
      have d1 : (l.length : Int) ≥ 1 := by omega
      rw [if_pos (decide_eq_true d1), decide_eq_true h1, Bool.true_and]
      by_cases h2 : l.length ≤ 200
      · have d2 : (l.length : Int) ≤ 200 := by omega
        rw [if_pos (decide_eq_true d2), decide_eq_true h2, Bool.true_and]
        by_cases h3 : l.length = 1
        · have d3 : (((l.length : Nat) : Int) == (1 : Int)) = true := by simp [h3]
          rw [if_pos d3, decide_eq_true h3, Bool.true_or]
        · have d3 : ¬ (((l.length : Nat) : Int) == (1 : Int)) = true := by simp; omega
          have d4 : (0 : Int) < (l.length : Int) := by omega
          rw [if_neg d3, if_pos (decide_eq_true d4), decide_eq_false h3, Bool.false_or]
          have hb : byteAt s 0 = (l[0].toNat : Int) := by
            unfold byteAt
            rw [hL]
            simp [hpos]
          have hh : l.head? = some l[0] := by
            cases l with
            | nil => simp at h1
            | cons c r => rfl
          rw [hb, hh]
          by_cases c1 : l[0] = 48
          · rw [c1]
            rfl
          · have : ¬ ((l[0].toNat : Int) = 48) := by
              intro q
              apply c1
              apply UInt8.toNat_inj.1
              show _ = 48
              omega
            rw [decide_eq_true (by simpa using c1)]
            simpa [bne] using this
      · have d2 : ¬ (l.length : Int) ≤ 200 := by omega
        rw [if_neg (by simpa using d2), decide_eq_false h2, Bool.false_and]) (by omega)
  rw [List.drop_zero] at key
  exact key
def P.s_l01Parse (k : Nat) (x : (ByteArray × Unit)) : (Option (((Bool × ((List Int) × (List Int))) × Bool) × Unit)) :=
 (if ((decide ((((ByteArray.size x.1) : Nat) : Int) > (0 : Int))) = true) then (if ((decide ((0 : Int) < (((ByteArray.size x.1) : Nat) : Int))) = true) then (if (((byteAt x.1 (0 : Int)) == (45 : Int)) = true) then (if ((decide ((0 : Int) ≤ (((ByteArray.size x.1) : Nat) : Int))) = true) then (if ((decide ((((ByteArray.size x.1) : Nat) : Int) ≤ (((ByteArray.size x.1) : Nat) : Int))) = true) then (if ((decide ((1 : Int) ≤ (((ByteArray.size x.1) : Nat) : Int))) = true) then (Option.bind (S.s_l01Cut ((ByteArray.extract x.1 (1 : Nat) (Int.toNat (((ByteArray.size x.1) : Nat) : Int))) , ((47 : Int) , ()))) (fun (y0 : ((List ByteArray) × Unit)) => (if ((decide ((((List.length y0.1) : Nat) : Int) > (2 : Int))) = true) then (some (((false , (([] : List Int) , ([] : List Int))) , false) , ()))
 else (if ((decide ((0 : Int) < (((List.length y0.1) : Nat) : Int))) = true) then (Option.bind (S.s_l01Digits ((List.getD y0.1 (0 : Nat) (bs [])) , ())) (fun (y1 : (Bool × Unit)) => (if ((!y1.1) = true) then (some (((false , (([] : List Int) , ([] : List Int))) , false) , ()))
 else (if ((decide ((0 : Int) < (((List.length y0.1) : Nat) : Int))) = true) then (Option.bind (S.s_l01NatRead ((List.getD y0.1 (0 : Nat) (bs [])) , ())) (fun (y2 : ((List Int) × Unit)) => (if (((byteAt x.1 (0 : Int)) == (45 : Int)) = true) then (if (((((List.length y2.1) : Nat) : Int) == (0 : Int)) = true) then (some (((false , (([] : List Int) , ([] : List Int))) , false) , ()))
 else (if (((((List.length y0.1) : Nat) : Int) == (1 : Int)) = true) then (some (((((byteAt x.1 (0 : Int)) == (45 : Int)) , (y2.1 , ((1 : Int) :: ([] : List Int)))) , true) , ()))
 else (if ((decide ((1 : Int) < (((List.length y0.1) : Nat) : Int))) = true) then (Option.bind (S.s_l01Digits ((List.getD y0.1 (1 : Nat) (bs [])) , ())) (fun (y3 : (Bool × Unit)) => (if ((!y3.1) = true) then (some (((false , (([] : List Int) , ([] : List Int))) , false) , ()))
 else (if ((decide ((1 : Int) < (((List.length y0.1) : Nat) : Int))) = true) then (Option.bind (S.s_l01NatRead ((List.getD y0.1 (1 : Nat) (bs [])) , ())) (fun (y4 : ((List Int) × Unit)) => (Option.bind (S.s_l01Cmp (y4.1 , (((1 : Int) :: ([] : List Int)) , ()))) (fun (y5 : (Int × Unit)) => (if ((decide (y5.1 ≤ (0 : Int))) = true) then (some (((false , (([] : List Int) , ([] : List Int))) , false) , ()))
 else (Option.bind (S.s_l01Gcd (y2.1 , (y4.1 , ()))) (fun (y6 : ((List Int) × Unit)) => (Option.bind (S.s_l01Cmp (y6.1 , (((1 : Int) :: ([] : List Int)) , ()))) (fun (y7 : (Int × Unit)) => (if ((y7.1 != (0 : Int)) = true) then (some (((false , (([] : List Int) , ([] : List Int))) , false) , ()))
 else (some (((((byteAt x.1 (0 : Int)) == (45 : Int)) , (y2.1 , y4.1)) , true) , ()))))))))))))
 else none))))
 else none)))
 else (if (((((List.length y0.1) : Nat) : Int) == (1 : Int)) = true) then (some (((((byteAt x.1 (0 : Int)) == (45 : Int)) , (y2.1 , ((1 : Int) :: ([] : List Int)))) , true) , ()))
 else (if ((decide ((1 : Int) < (((List.length y0.1) : Nat) : Int))) = true) then (Option.bind (S.s_l01Digits ((List.getD y0.1 (1 : Nat) (bs [])) , ())) (fun (y8 : (Bool × Unit)) => (if ((!y8.1) = true) then (some (((false , (([] : List Int) , ([] : List Int))) , false) , ()))
 else (if ((decide ((1 : Int) < (((List.length y0.1) : Nat) : Int))) = true) then (Option.bind (S.s_l01NatRead ((List.getD y0.1 (1 : Nat) (bs [])) , ())) (fun (y9 : ((List Int) × Unit)) => (Option.bind (S.s_l01Cmp (y9.1 , (((1 : Int) :: ([] : List Int)) , ()))) (fun (y10 : (Int × Unit)) => (if ((decide (y10.1 ≤ (0 : Int))) = true) then (some (((false , (([] : List Int) , ([] : List Int))) , false) , ()))
 else (Option.bind (S.s_l01Gcd (y2.1 , (y9.1 , ()))) (fun (y11 : ((List Int) × Unit)) => (Option.bind (S.s_l01Cmp (y11.1 , (((1 : Int) :: ([] : List Int)) , ()))) (fun (y12 : (Int × Unit)) => (if ((y12.1 != (0 : Int)) = true) then (some (((false , (([] : List Int) , ([] : List Int))) , false) , ()))
 else (some (((((byteAt x.1 (0 : Int)) == (45 : Int)) , (y2.1 , y9.1)) , true) , ()))))))))))))
 else none))))
 else none)))))
 else none))))
 else none))))
 else none)
 else none)
 else none)
 else (Option.bind (S.s_l01Cut (x.1 , ((47 : Int) , ()))) (fun (y13 : ((List ByteArray) × Unit)) => (if ((decide ((((List.length y13.1) : Nat) : Int) > (2 : Int))) = true) then (some (((false , (([] : List Int) , ([] : List Int))) , false) , ()))
 else (if ((decide ((0 : Int) < (((List.length y13.1) : Nat) : Int))) = true) then (Option.bind (S.s_l01Digits ((List.getD y13.1 (0 : Nat) (bs [])) , ())) (fun (y14 : (Bool × Unit)) => (if ((!y14.1) = true) then (some (((false , (([] : List Int) , ([] : List Int))) , false) , ()))
 else (if ((decide ((0 : Int) < (((List.length y13.1) : Nat) : Int))) = true) then (Option.bind (S.s_l01NatRead ((List.getD y13.1 (0 : Nat) (bs [])) , ())) (fun (y15 : ((List Int) × Unit)) => (if (((byteAt x.1 (0 : Int)) == (45 : Int)) = true) then (if (((((List.length y15.1) : Nat) : Int) == (0 : Int)) = true) then (some (((false , (([] : List Int) , ([] : List Int))) , false) , ()))
 else (if (((((List.length y13.1) : Nat) : Int) == (1 : Int)) = true) then (some (((((byteAt x.1 (0 : Int)) == (45 : Int)) , (y15.1 , ((1 : Int) :: ([] : List Int)))) , true) , ()))
 else (if ((decide ((1 : Int) < (((List.length y13.1) : Nat) : Int))) = true) then (Option.bind (S.s_l01Digits ((List.getD y13.1 (1 : Nat) (bs [])) , ())) (fun (y16 : (Bool × Unit)) => (if ((!y16.1) = true) then (some (((false , (([] : List Int) , ([] : List Int))) , false) , ()))
 else (if ((decide ((1 : Int) < (((List.length y13.1) : Nat) : Int))) = true) then (Option.bind (S.s_l01NatRead ((List.getD y13.1 (1 : Nat) (bs [])) , ())) (fun (y17 : ((List Int) × Unit)) => (Option.bind (S.s_l01Cmp (y17.1 , (((1 : Int) :: ([] : List Int)) , ()))) (fun (y18 : (Int × Unit)) => (if ((decide (y18.1 ≤ (0 : Int))) = true) then (some (((false , (([] : List Int) , ([] : List Int))) , false) , ()))
 else (Option.bind (S.s_l01Gcd (y15.1 , (y17.1 , ()))) (fun (y19 : ((List Int) × Unit)) => (Option.bind (S.s_l01Cmp (y19.1 , (((1 : Int) :: ([] : List Int)) , ()))) (fun (y20 : (Int × Unit)) => (if ((y20.1 != (0 : Int)) = true) then (some (((false , (([] : List Int) , ([] : List Int))) , false) , ()))
 else (some (((((byteAt x.1 (0 : Int)) == (45 : Int)) , (y15.1 , y17.1)) , true) , ()))))))))))))
 else none))))
 else none)))
 else (if (((((List.length y13.1) : Nat) : Int) == (1 : Int)) = true) then (some (((((byteAt x.1 (0 : Int)) == (45 : Int)) , (y15.1 , ((1 : Int) :: ([] : List Int)))) , true) , ()))
 else (if ((decide ((1 : Int) < (((List.length y13.1) : Nat) : Int))) = true) then (Option.bind (S.s_l01Digits ((List.getD y13.1 (1 : Nat) (bs [])) , ())) (fun (y21 : (Bool × Unit)) => (if ((!y21.1) = true) then (some (((false , (([] : List Int) , ([] : List Int))) , false) , ()))
 else (if ((decide ((1 : Int) < (((List.length y13.1) : Nat) : Int))) = true) then (Option.bind (S.s_l01NatRead ((List.getD y13.1 (1 : Nat) (bs [])) , ())) (fun (y22 : ((List Int) × Unit)) => (Option.bind (S.s_l01Cmp (y22.1 , (((1 : Int) :: ([] : List Int)) , ()))) (fun (y23 : (Int × Unit)) => (if ((decide (y23.1 ≤ (0 : Int))) = true) then (some (((false , (([] : List Int) , ([] : List Int))) , false) , ()))
 else (Option.bind (S.s_l01Gcd (y15.1 , (y22.1 , ()))) (fun (y24 : ((List Int) × Unit)) => (Option.bind (S.s_l01Cmp (y24.1 , (((1 : Int) :: ([] : List Int)) , ()))) (fun (y25 : (Int × Unit)) => (if ((y25.1 != (0 : Int)) = true) then (some (((false , (([] : List Int) , ([] : List Int))) , false) , ()))
 else (some (((((byteAt x.1 (0 : Int)) == (45 : Int)) , (y15.1 , y22.1)) , true) , ()))))))))))))
 else none))))
 else none)))))
 else none))))
 else none)))))
 else none)
 else (Option.bind (S.s_l01Cut (x.1 , ((47 : Int) , ()))) (fun (y26 : ((List ByteArray) × Unit)) => (if ((decide ((((List.length y26.1) : Nat) : Int) > (2 : Int))) = true) then (some (((false , (([] : List Int) , ([] : List Int))) , false) , ()))
 else (if ((decide ((0 : Int) < (((List.length y26.1) : Nat) : Int))) = true) then (Option.bind (S.s_l01Digits ((List.getD y26.1 (0 : Nat) (bs [])) , ())) (fun (y27 : (Bool × Unit)) => (if ((!y27.1) = true) then (some (((false , (([] : List Int) , ([] : List Int))) , false) , ()))
 else (if ((decide ((0 : Int) < (((List.length y26.1) : Nat) : Int))) = true) then (Option.bind (S.s_l01NatRead ((List.getD y26.1 (0 : Nat) (bs [])) , ())) (fun (y28 : ((List Int) × Unit)) => (if (((((List.length y26.1) : Nat) : Int) == (1 : Int)) = true) then (some (((false , (y28.1 , ((1 : Int) :: ([] : List Int)))) , true) , ()))
 else (if ((decide ((1 : Int) < (((List.length y26.1) : Nat) : Int))) = true) then (Option.bind (S.s_l01Digits ((List.getD y26.1 (1 : Nat) (bs [])) , ())) (fun (y29 : (Bool × Unit)) => (if ((!y29.1) = true) then (some (((false , (([] : List Int) , ([] : List Int))) , false) , ()))
 else (if ((decide ((1 : Int) < (((List.length y26.1) : Nat) : Int))) = true) then (Option.bind (S.s_l01NatRead ((List.getD y26.1 (1 : Nat) (bs [])) , ())) (fun (y30 : ((List Int) × Unit)) => (Option.bind (S.s_l01Cmp (y30.1 , (((1 : Int) :: ([] : List Int)) , ()))) (fun (y31 : (Int × Unit)) => (if ((decide (y31.1 ≤ (0 : Int))) = true) then (some (((false , (([] : List Int) , ([] : List Int))) , false) , ()))
 else (Option.bind (S.s_l01Gcd (y28.1 , (y30.1 , ()))) (fun (y32 : ((List Int) × Unit)) => (Option.bind (S.s_l01Cmp (y32.1 , (((1 : Int) :: ([] : List Int)) , ()))) (fun (y33 : (Int × Unit)) => (if ((y33.1 != (0 : Int)) = true) then (some (((false , (([] : List Int) , ([] : List Int))) , false) , ()))
 else (some (((false , (y28.1 , y30.1)) , true) , ()))))))))))))
 else none))))
 else none))))
 else none))))
 else none)))))
theorem pp_sign (T : ByteArray) (n : Bool) (hsz : T.size ≤ 1000000) :
    (Option.bind (S.s_l01Cut (T , ((47 : Int) , ()))) (fun (z0 : ((List ByteArray) × Unit)) => (if ((decide ((((List.length z0.1) : Nat) : Int) > (2 : Int))) = true) then (some (((false , (([] : List Int) , ([] : List Int))) , false) , ()))
 else (if ((decide ((0 : Int) < (((List.length z0.1) : Nat) : Int))) = true) then (Option.bind (S.s_l01Digits ((List.getD z0.1 (0 : Nat) (Go.Cm.bs [])) , ())) (fun (z1 : (Bool × Unit)) => (if ((!z1.1) = true) then (some (((false , (([] : List Int) , ([] : List Int))) , false) , ()))
 else (if ((decide ((0 : Int) < (((List.length z0.1) : Nat) : Int))) = true) then (Option.bind (S.s_l01NatRead ((List.getD z0.1 (0 : Nat) (Go.Cm.bs [])) , ())) (fun (z2 : ((List Int) × Unit)) => (if (n = true) then (if (((((List.length z2.1) : Nat) : Int) == (0 : Int)) = true) then (some (((false , (([] : List Int) , ([] : List Int))) , false) , ()))
 else (if (((((List.length z0.1) : Nat) : Int) == (1 : Int)) = true) then (some (((n , (z2.1 , ((1 : Int) :: ([] : List Int)))) , true) , ()))
 else (if ((decide ((1 : Int) < (((List.length z0.1) : Nat) : Int))) = true) then (Option.bind (S.s_l01Digits ((List.getD z0.1 (1 : Nat) (Go.Cm.bs [])) , ())) (fun (z3 : (Bool × Unit)) => (if ((!z3.1) = true) then (some (((false , (([] : List Int) , ([] : List Int))) , false) , ()))
 else (if ((decide ((1 : Int) < (((List.length z0.1) : Nat) : Int))) = true) then (Option.bind (S.s_l01NatRead ((List.getD z0.1 (1 : Nat) (Go.Cm.bs [])) , ())) (fun (z4 : ((List Int) × Unit)) => (Option.bind (S.s_l01Cmp (z4.1 , (((1 : Int) :: ([] : List Int)) , ()))) (fun (z5 : (Int × Unit)) => (if ((decide (z5.1 ≤ (0 : Int))) = true) then (some (((false , (([] : List Int) , ([] : List Int))) , false) , ()))
 else (Option.bind (S.s_l01Gcd (z2.1 , (z4.1 , ()))) (fun (z6 : ((List Int) × Unit)) => (Option.bind (S.s_l01Cmp (z6.1 , (((1 : Int) :: ([] : List Int)) , ()))) (fun (z7 : (Int × Unit)) => (if ((z7.1 != (0 : Int)) = true) then (some (((false , (([] : List Int) , ([] : List Int))) , false) , ()))
 else (some (((n , (z2.1 , z4.1)) , true) , ()))))))))))))
 else none))))
 else none)))
 else (if (((((List.length z0.1) : Nat) : Int) == (1 : Int)) = true) then (some (((n , (z2.1 , ((1 : Int) :: ([] : List Int)))) , true) , ()))
 else (if ((decide ((1 : Int) < (((List.length z0.1) : Nat) : Int))) = true) then (Option.bind (S.s_l01Digits ((List.getD z0.1 (1 : Nat) (Go.Cm.bs [])) , ())) (fun (z8 : (Bool × Unit)) => (if ((!z8.1) = true) then (some (((false , (([] : List Int) , ([] : List Int))) , false) , ()))
 else (if ((decide ((1 : Int) < (((List.length z0.1) : Nat) : Int))) = true) then (Option.bind (S.s_l01NatRead ((List.getD z0.1 (1 : Nat) (Go.Cm.bs [])) , ())) (fun (z9 : ((List Int) × Unit)) => (Option.bind (S.s_l01Cmp (z9.1 , (((1 : Int) :: ([] : List Int)) , ()))) (fun (z10 : (Int × Unit)) => (if ((decide (z10.1 ≤ (0 : Int))) = true) then (some (((false , (([] : List Int) , ([] : List Int))) , false) , ()))
 else (Option.bind (S.s_l01Gcd (z2.1 , (z9.1 , ()))) (fun (z11 : ((List Int) × Unit)) => (Option.bind (S.s_l01Cmp (z11.1 , (((1 : Int) :: ([] : List Int)) , ()))) (fun (z12 : (Int × Unit)) => (if ((z12.1 != (0 : Int)) = true) then (some (((false , (([] : List Int) , ([] : List Int))) , false) , ()))
 else (some (((n , (z2.1 , z9.1)) , true) , ()))))))))))))
 else none))))
 else none)))))
 else none))))
 else none)))) = some ((rp B10 (rdBody n (cutP 47 T.data.toList)).1, (rdBody n (cutP 47 T.data.toList)).2), ()) := by
  have hbad : ((false, (([] : List Int), ([] : List Int))), false) = (rp B10 noQ.1, noQ.2) := by
    unfold noQ rp
    dsimp only
    rw [nd_zero B10_le]
  have hcut : S.s_l01Cut (T, (47, ())) = some ((cutUp T 47 (T.size + 1)).1, ()) := by
    unfold S.s_l01Cut
    exact if_pos hsz
  have hp : (cutUp T 47 (T.size + 1)).1.map (·.data.toList) = pieces 47 T.data.toList := cutUp_pieces T 47
  have hlen : ∀ A ∈ (cutUp T 47 (T.size + 1)).1, A.data.toList.length ≤ 1000000 := by
    intro A hA
    have h1 := pieces_len 47 T.data.toList A.data.toList (by rw [← hp]; exact List.mem_map_of_mem hA)
    have h2 : T.size = T.data.toList.length := by rw [Array.length_toList]; rfl
    omega
  rw [hcut, Option.bind_some, hbad]
  generalize (cutUp T 47 (T.size + 1)).1 = ps at *
  rw [pieces_cutP] at hp
  generalize hc : cutP 47 T.data.toList = c at *
  have hDig : ∀ A ∈ ps, S.s_l01Digits (A, ()) = some (okN A.data.toList, ()) := by
    intro A hA
    have h1 := hlen A hA
    have h2 : A.size = A.data.toList.length := by rw [Array.length_toList]; rfl
    unfold S.s_l01Digits
    exact if_pos (by dsimp only; omega)
  have hRead : ∀ A ∈ ps, okN A.data.toList = true → S.s_l01NatRead (A, ()) = some (nd B10 (dv A.data.toList), ()) := by
    intro A hA hok
    have h1 := okN_allD hok
    unfold S.s_l01NatRead
    exact if_pos ⟨h1.1, by dsimp only; omega⟩
  have hz : ∀ m : Nat, (((nd B10 m).length : Int) == 0) = decide (m = 0) := by
    intro m
    have := canon_nil B10_le (canon_nd B10_le m)
    rw [dval_nd B10_le] at this
    by_cases h0 : m = 0
    · rw [this.2 h0, h0]; rfl
    · have hne := fun q => h0 (this.1 q)
      rw [decide_eq_false h0]
      simpa using hne
  have hone : ([1] : List Int) = nd B10 1 := (nd_one B10_le).symm
  unfold rdBody
  cases hf : c.2.2
  · -- one part
    rw [hf, if_neg (by decide)] at hp
    obtain ⟨A, rfl, hA⟩ : ∃ A, ps = [A] ∧ A.data.toList = c.1 := by
      exact List.map_eq_singleton_iff.1 hp
    have hd := hDig A (by simp)
    have hr := hRead A (by simp)
    rw [hA] at hd hr
    have l1 : ¬ (((List.length [A] : Nat) : Int) > 2) := by simp
    have l2 : (0 : Int) < ((List.length [A] : Nat) : Int) := by simp
    have l3 : (((List.length [A] : Nat) : Int) == 1) = true := rfl
    simp only [l1, l2, l3, decide_true, decide_false, if_true, if_false, Bool.false_eq_true, List.getD_cons_zero]
    rw [hd, Option.bind_some]
    dsimp only
    cases hok : okN c.1
    · rw [if_pos (show (!false) = true by rfl), if_neg (fun q => by cases q.1)]
    · rw [if_neg (show ¬ ((!true) = true) by decide), hr hok, Option.bind_some]
      dsimp only
      rw [hz]
      cases n
      · rw [if_neg (show ¬ ((false : Bool) = true) by decide), if_pos ⟨rfl, fun q => by cases q.1⟩, hone]
        rfl
      · rw [if_pos rfl]
        by_cases h0 : dv c.1 = 0
        · rw [if_pos (decide_eq_true h0), if_neg (fun q => q.2 ⟨rfl, h0⟩)]
        · rw [if_neg (by simpa using h0), if_pos ⟨rfl, fun q => h0 q.2⟩, hone]
          rfl
  · rw [hf, if_pos rfl, pieces_cutP] at hp
    cases hf2 : (cutP 47 c.2.1).2.2
    · rw [hf2, if_neg (by decide)] at hp
      have hy : (cutP 47 c.2.1).1 = c.2.1 := ((cutP_index 47 c.2.1).1 hf2).2.1
      rw [hy] at hp
      obtain ⟨A, B, rfl, hA, hB⟩ : ∃ A B, ps = [A, B] ∧ A.data.toList = c.1 ∧ B.data.toList = c.2.1 := by
        obtain ⟨A, q, rfl, hA, hq⟩ := List.map_eq_cons_iff.1 hp
        obtain ⟨B, rfl, hB⟩ := List.map_eq_singleton_iff.1 hq
        exact ⟨A, B, rfl, hA, hB⟩
      have hd := hDig A (by simp)
      have hr := hRead A (by simp)
      have hd2 := hDig B (by simp)
      have hr2 := hRead B (by simp)
      rw [hA] at hd hr
      rw [hB] at hd2 hr2
      have l1 : ¬ (((List.length [A, B] : Nat) : Int) > 2) := by simp
      have l2 : (0 : Int) < ((List.length [A, B] : Nat) : Int) := by simp
      have l3 : (((List.length [A, B] : Nat) : Int) == 1) = false := rfl
      have l4 : (1 : Int) < ((List.length [A, B] : Nat) : Int) := by simp
      simp only [l1, l2, l3, l4, decide_true, decide_false, if_true, if_false, Bool.false_eq_true, List.getD_cons_zero, List.getD_cons_succ]
      rw [hd, Option.bind_some]
      dsimp only
      cases hok : okN c.1
      · rw [if_pos (show (!false) = true by rfl), if_neg (fun q => by cases q.1)]
      · rw [if_neg (show ¬ ((!true) = true) by decide), hr hok, Option.bind_some]
        dsimp only
        have la := nd_len200 (B := B10) (by decide) (okN_lt hok)
        -- what follows, once the sign fits
        have hrest : ∀ (m : Bool), ¬ (m = true ∧ dv c.1 = 0) → (Option.bind (S.s_l01Digits (B , ())) (fun (w0 : (Bool × Unit)) => (if ((!w0.1) = true) then (some ((rp B10 noQ.1 , noQ.2) , ()))
 else (Option.bind (S.s_l01NatRead (B , ())) (fun (w1 : ((List Int) × Unit)) => (Option.bind (S.s_l01Cmp (w1.1 , (((1 : Int) :: ([] : List Int)) , ()))) (fun (w2 : (Int × Unit)) => (if ((decide (w2.1 ≤ (0 : Int))) = true) then (some ((rp B10 noQ.1 , noQ.2) , ()))
 else (Option.bind (S.s_l01Gcd (nd B10 (dv c.1) , (w1.1 , ()))) (fun (w3 : ((List Int) × Unit)) => (Option.bind (S.s_l01Cmp (w3.1 , (((1 : Int) :: ([] : List Int)) , ()))) (fun (w4 : (Int × Unit)) => (if ((w4.1 != (0 : Int)) = true) then (some ((rp B10 noQ.1 , noQ.2) , ()))
 else (some (((m , (nd B10 (dv c.1) , w1.1)) , true) , ()))))))))))))))) = some ((rp B10 (if okN c.2.1 = true ∧ 1 < dv c.2.1 ∧ Nat.gcd (dv c.1) (dv c.2.1) = 1 then ((m, (dv c.1, dv c.2.1)), true) else noQ).1, (if okN c.2.1 = true ∧ 1 < dv c.2.1 ∧ Nat.gcd (dv c.1) (dv c.2.1) = 1 then ((m, (dv c.1, dv c.2.1)), true) else noQ).2), ()) := by
          intro m hm
          rw [hd2, Option.bind_some]
          dsimp only
          cases hb : okN c.2.1
          · have hx : ¬ ((false : Bool) = true ∧ 1 < dv c.2.1 ∧ Nat.gcd (dv c.1) (dv c.2.1) = 1) := fun q => by cases q.1
            rw [if_pos (show (!false) = true by rfl), if_neg hx]
          · have lb := nd_len200 (B := B10) (by decide) (okN_lt hb)
            rw [if_neg (show ¬ ((!true) = true) by decide), hr2 hb, Option.bind_some]
            dsimp only
            have e1 : S.s_l01Cmp (nd B10 (dv c.2.1), ([1], ())) = some (cmpN (dv c.2.1) 1, ()) := by
              unfold S.s_l01Cmp
              dsimp only
              rw [if_pos ⟨canon_nd B10_le _, canon_one B10_le, by omega⟩, dval_nd B10_le, dval_one]
            have e2 : S.s_l01Gcd (nd B10 (dv c.1), (nd B10 (dv c.2.1), ())) = some (nd B10 (Nat.gcd (dv c.1) (dv c.2.1)), ()) := by
              unfold S.s_l01Gcd
              dsimp only
              rw [if_pos ⟨canon_nd B10_le _, canon_nd B10_le _, by omega, by omega⟩, dval_nd B10_le, dval_nd B10_le]
            rw [e1, Option.bind_some]
            dsimp only
            by_cases h1 : 1 < dv c.2.1
            · have hcm : ¬ (cmpN (dv c.2.1) 1 ≤ 0) := by
                have := (cmpN_gt (a := dv c.2.1) (b := 1)).2 h1
                omega
              have lg : (nd B10 (Nat.gcd (dv c.1) (dv c.2.1))).length ≤ 200 := Nat.le_trans (nd_shorter' B10_le (Nat.le_of_dvd (by omega) (Nat.gcd_dvd_right _ _))) lb
              have e3 : S.s_l01Cmp (nd B10 (Nat.gcd (dv c.1) (dv c.2.1)), ([1], ())) = some (cmpN (Nat.gcd (dv c.1) (dv c.2.1)) 1, ()) := by
                unfold S.s_l01Cmp
                dsimp only
                rw [if_pos ⟨canon_nd B10_le _, canon_one B10_le, by omega⟩, dval_nd B10_le, dval_one]
              rw [if_neg (by simpa using hcm), e2, Option.bind_some]
              dsimp only
              rw [e3, Option.bind_some]
              dsimp only
              by_cases hg : Nat.gcd (dv c.1) (dv c.2.1) = 1
              · rw [if_neg (by simpa using cmpN_zero.2 hg), if_pos ⟨rfl, h1, hg⟩]
                rfl
              · rw [if_pos (by simpa using fun q => hg (cmpN_zero.1 q)), if_neg (fun q => hg q.2.2)]
            · have hcm : cmpN (dv c.2.1) 1 ≤ 0 := by
                have h2 : ¬ (cmpN (dv c.2.1) 1 > 0) := fun q => h1 ((cmpN_gt (a := dv c.2.1) (b := 1)).1 q)
                omega
              rw [if_pos (decide_eq_true hcm), if_neg (fun q => h1 q.2.1)]
        rw [hz]
        cases n
        · have hm : ¬ ((false : Bool) = true ∧ dv c.1 = 0) := fun q => by cases q.1
          rw [if_neg (show ¬ ((false : Bool) = true) by decide), if_pos ⟨rfl, hm⟩]
          exact hrest false hm
        · rw [if_pos rfl]
          by_cases h0 : dv c.1 = 0
          · rw [if_pos (decide_eq_true h0), if_neg (fun q => q.2 ⟨rfl, h0⟩)]
          · have hm : ¬ ((true : Bool) = true ∧ dv c.1 = 0) := fun q => h0 q.2
            rw [if_neg (by simpa using h0), if_pos ⟨rfl, hm⟩]
            exact hrest true hm
    · -- three parts or more
      rw [hf2, if_pos rfl] at hp
      have hl : ps.length = 2 + (pieces 47 (cutP 47 c.2.1).2.1).length := by
        have := congrArg List.length hp
        simp at this
        omega
      have hl2 : (pieces 47 (cutP 47 c.2.1).2.1).length ≠ 0 := fun q => pieces_ne 47 _ (List.eq_nil_of_length_eq_zero q)
      have l1 : ((ps.length : Nat) : Int) > 2 := by omega
      have hx : ¬ (okN c.2.1 = true ∧ 1 < dv c.2.1 ∧ Nat.gcd (dv c.1) (dv c.2.1) = 1) := fun q => by
        have := cutP_allD (okN_allD q.1).1
        rw [hf2] at this
        cases this
      rw [if_pos (decide_eq_true l1), if_pos rfl, if_neg hx]
      split <;> rfl
theorem pp_plain (T : ByteArray) (hsz : T.size ≤ 1000000) :
    (Option.bind (S.s_l01Cut (T , ((47 : Int) , ()))) (fun (z0 : ((List ByteArray) × Unit)) => (if ((decide ((((List.length z0.1) : Nat) : Int) > (2 : Int))) = true) then (some (((false , (([] : List Int) , ([] : List Int))) , false) , ()))
 else (if ((decide ((0 : Int) < (((List.length z0.1) : Nat) : Int))) = true) then (Option.bind (S.s_l01Digits ((List.getD z0.1 (0 : Nat) (Go.Cm.bs [])) , ())) (fun (z1 : (Bool × Unit)) => (if ((!z1.1) = true) then (some (((false , (([] : List Int) , ([] : List Int))) , false) , ()))
 else (if ((decide ((0 : Int) < (((List.length z0.1) : Nat) : Int))) = true) then (Option.bind (S.s_l01NatRead ((List.getD z0.1 (0 : Nat) (Go.Cm.bs [])) , ())) (fun (z2 : ((List Int) × Unit)) => (if (((((List.length z0.1) : Nat) : Int) == (1 : Int)) = true) then (some (((false , (z2.1 , ((1 : Int) :: ([] : List Int)))) , true) , ()))
 else (if ((decide ((1 : Int) < (((List.length z0.1) : Nat) : Int))) = true) then (Option.bind (S.s_l01Digits ((List.getD z0.1 (1 : Nat) (Go.Cm.bs [])) , ())) (fun (z3 : (Bool × Unit)) => (if ((!z3.1) = true) then (some (((false , (([] : List Int) , ([] : List Int))) , false) , ()))
 else (if ((decide ((1 : Int) < (((List.length z0.1) : Nat) : Int))) = true) then (Option.bind (S.s_l01NatRead ((List.getD z0.1 (1 : Nat) (Go.Cm.bs [])) , ())) (fun (z4 : ((List Int) × Unit)) => (Option.bind (S.s_l01Cmp (z4.1 , (((1 : Int) :: ([] : List Int)) , ()))) (fun (z5 : (Int × Unit)) => (if ((decide (z5.1 ≤ (0 : Int))) = true) then (some (((false , (([] : List Int) , ([] : List Int))) , false) , ()))
 else (Option.bind (S.s_l01Gcd (z2.1 , (z4.1 , ()))) (fun (z6 : ((List Int) × Unit)) => (Option.bind (S.s_l01Cmp (z6.1 , (((1 : Int) :: ([] : List Int)) , ()))) (fun (z7 : (Int × Unit)) => (if ((z7.1 != (0 : Int)) = true) then (some (((false , (([] : List Int) , ([] : List Int))) , false) , ()))
 else (some (((false , (z2.1 , z4.1)) , true) , ()))))))))))))
 else none))))
 else none))))
 else none))))
 else none)))) = some ((rp B10 (rdBody false (cutP 47 T.data.toList)).1, (rdBody false (cutP 47 T.data.toList)).2), ()) := by
  have hbad : ((false, (([] : List Int), ([] : List Int))), false) = (rp B10 noQ.1, noQ.2) := by
    unfold noQ rp
    dsimp only
    rw [nd_zero B10_le]
  have hcut : S.s_l01Cut (T, (47, ())) = some ((cutUp T 47 (T.size + 1)).1, ()) := by
    unfold S.s_l01Cut
    exact if_pos hsz
  have hp : (cutUp T 47 (T.size + 1)).1.map (·.data.toList) = pieces 47 T.data.toList := cutUp_pieces T 47
  have hlen : ∀ A ∈ (cutUp T 47 (T.size + 1)).1, A.data.toList.length ≤ 1000000 := by
    intro A hA
    have h1 := pieces_len 47 T.data.toList A.data.toList (by rw [← hp]; exact List.mem_map_of_mem hA)
    have h2 : T.size = T.data.toList.length := by rw [Array.length_toList]; rfl
    omega
  rw [hcut, Option.bind_some, hbad]
  generalize (cutUp T 47 (T.size + 1)).1 = ps at *
  rw [pieces_cutP] at hp
  generalize hc : cutP 47 T.data.toList = c at *
  have hDig : ∀ A ∈ ps, S.s_l01Digits (A, ()) = some (okN A.data.toList, ()) := by
    intro A hA
    have h1 := hlen A hA
    have h2 : A.size = A.data.toList.length := by rw [Array.length_toList]; rfl
    unfold S.s_l01Digits
    exact if_pos (by dsimp only; omega)
  have hRead : ∀ A ∈ ps, okN A.data.toList = true → S.s_l01NatRead (A, ()) = some (nd B10 (dv A.data.toList), ()) := by
    intro A hA hok
    have h1 := okN_allD hok
    unfold S.s_l01NatRead
    exact if_pos ⟨h1.1, by dsimp only; omega⟩
  have hz : ∀ m : Nat, (((nd B10 m).length : Int) == 0) = decide (m = 0) := by
    intro m
    have := canon_nil B10_le (canon_nd B10_le m)
    rw [dval_nd B10_le] at this
    by_cases h0 : m = 0
    · rw [this.2 h0, h0]; rfl
    · have hne := fun q => h0 (this.1 q)
      rw [decide_eq_false h0]
      simpa using hne
  have hone : ([1] : List Int) = nd B10 1 := (nd_one B10_le).symm
  unfold rdBody
  cases hf : c.2.2
  · -- one part
    rw [hf, if_neg (by decide)] at hp
    obtain ⟨A, rfl, hA⟩ : ∃ A, ps = [A] ∧ A.data.toList = c.1 := by
      exact List.map_eq_singleton_iff.1 hp
    have hd := hDig A (by simp)
    have hr := hRead A (by simp)
    rw [hA] at hd hr
    have l1 : ¬ (((List.length [A] : Nat) : Int) > 2) := by simp
    have l2 : (0 : Int) < ((List.length [A] : Nat) : Int) := by simp
    have l3 : (((List.length [A] : Nat) : Int) == 1) = true := rfl
    simp only [l1, l2, l3, decide_true, decide_false, if_true, if_false, Bool.false_eq_true, List.getD_cons_zero]
    rw [hd, Option.bind_some]
    dsimp only
    cases hok : okN c.1
    · rw [if_pos (show (!false) = true by rfl), if_neg (fun q => by cases q.1)]
    · rw [if_neg (show ¬ ((!true) = true) by decide), hr hok, Option.bind_some]
      dsimp only
      rw [if_pos ⟨rfl, fun q => by cases q.1⟩, hone]
      rfl
  · rw [hf, if_pos rfl, pieces_cutP] at hp
    cases hf2 : (cutP 47 c.2.1).2.2
    · rw [hf2, if_neg (by decide)] at hp
      have hy : (cutP 47 c.2.1).1 = c.2.1 := ((cutP_index 47 c.2.1).1 hf2).2.1
      rw [hy] at hp
      obtain ⟨A, B, rfl, hA, hB⟩ : ∃ A B, ps = [A, B] ∧ A.data.toList = c.1 ∧ B.data.toList = c.2.1 := by
        obtain ⟨A, q, rfl, hA, hq⟩ := List.map_eq_cons_iff.1 hp
        obtain ⟨B, rfl, hB⟩ := List.map_eq_singleton_iff.1 hq
        exact ⟨A, B, rfl, hA, hB⟩
      have hd := hDig A (by simp)
      have hr := hRead A (by simp)
      have hd2 := hDig B (by simp)
      have hr2 := hRead B (by simp)
      rw [hA] at hd hr
      rw [hB] at hd2 hr2
      have l1 : ¬ (((List.length [A, B] : Nat) : Int) > 2) := by simp
      have l2 : (0 : Int) < ((List.length [A, B] : Nat) : Int) := by simp
      have l3 : (((List.length [A, B] : Nat) : Int) == 1) = false := rfl
      have l4 : (1 : Int) < ((List.length [A, B] : Nat) : Int) := by simp
      simp only [l1, l2, l3, l4, decide_true, decide_false, if_true, if_false, Bool.false_eq_true, List.getD_cons_zero, List.getD_cons_succ]
      rw [hd, Option.bind_some]
      dsimp only
      cases hok : okN c.1
      · rw [if_pos (show (!false) = true by rfl), if_neg (fun q => by cases q.1)]
      · rw [if_neg (show ¬ ((!true) = true) by decide), hr hok, Option.bind_some]
        dsimp only
        have la := nd_len200 (B := B10) (by decide) (okN_lt hok)
        -- what follows, once the sign fits
        have hrest : ∀ (m : Bool), ¬ (m = true ∧ dv c.1 = 0) → (Option.bind (S.s_l01Digits (B , ())) (fun (w0 : (Bool × Unit)) => (if ((!w0.1) = true) then (some ((rp B10 noQ.1 , noQ.2) , ()))
 else (Option.bind (S.s_l01NatRead (B , ())) (fun (w1 : ((List Int) × Unit)) => (Option.bind (S.s_l01Cmp (w1.1 , (((1 : Int) :: ([] : List Int)) , ()))) (fun (w2 : (Int × Unit)) => (if ((decide (w2.1 ≤ (0 : Int))) = true) then (some ((rp B10 noQ.1 , noQ.2) , ()))
 else (Option.bind (S.s_l01Gcd (nd B10 (dv c.1) , (w1.1 , ()))) (fun (w3 : ((List Int) × Unit)) => (Option.bind (S.s_l01Cmp (w3.1 , (((1 : Int) :: ([] : List Int)) , ()))) (fun (w4 : (Int × Unit)) => (if ((w4.1 != (0 : Int)) = true) then (some ((rp B10 noQ.1 , noQ.2) , ()))
 else (some (((m , (nd B10 (dv c.1) , w1.1)) , true) , ()))))))))))))))) = some ((rp B10 (if okN c.2.1 = true ∧ 1 < dv c.2.1 ∧ Nat.gcd (dv c.1) (dv c.2.1) = 1 then ((m, (dv c.1, dv c.2.1)), true) else noQ).1, (if okN c.2.1 = true ∧ 1 < dv c.2.1 ∧ Nat.gcd (dv c.1) (dv c.2.1) = 1 then ((m, (dv c.1, dv c.2.1)), true) else noQ).2), ()) := by
          intro m hm
          rw [hd2, Option.bind_some]
          dsimp only
          cases hb : okN c.2.1
          · have hx : ¬ ((false : Bool) = true ∧ 1 < dv c.2.1 ∧ Nat.gcd (dv c.1) (dv c.2.1) = 1) := fun q => by cases q.1
            rw [if_pos (show (!false) = true by rfl), if_neg hx]
          · have lb := nd_len200 (B := B10) (by decide) (okN_lt hb)
            rw [if_neg (show ¬ ((!true) = true) by decide), hr2 hb, Option.bind_some]
            dsimp only
            have e1 : S.s_l01Cmp (nd B10 (dv c.2.1), ([1], ())) = some (cmpN (dv c.2.1) 1, ()) := by
              unfold S.s_l01Cmp
              dsimp only
              rw [if_pos ⟨canon_nd B10_le _, canon_one B10_le, by omega⟩, dval_nd B10_le, dval_one]
            have e2 : S.s_l01Gcd (nd B10 (dv c.1), (nd B10 (dv c.2.1), ())) = some (nd B10 (Nat.gcd (dv c.1) (dv c.2.1)), ()) := by
              unfold S.s_l01Gcd
              dsimp only
              rw [if_pos ⟨canon_nd B10_le _, canon_nd B10_le _, by omega, by omega⟩, dval_nd B10_le, dval_nd B10_le]
            rw [e1, Option.bind_some]
            dsimp only
            by_cases h1 : 1 < dv c.2.1
            · have hcm : ¬ (cmpN (dv c.2.1) 1 ≤ 0) := by
                have := (cmpN_gt (a := dv c.2.1) (b := 1)).2 h1
                omega
              have lg : (nd B10 (Nat.gcd (dv c.1) (dv c.2.1))).length ≤ 200 := Nat.le_trans (nd_shorter' B10_le (Nat.le_of_dvd (by omega) (Nat.gcd_dvd_right _ _))) lb
              have e3 : S.s_l01Cmp (nd B10 (Nat.gcd (dv c.1) (dv c.2.1)), ([1], ())) = some (cmpN (Nat.gcd (dv c.1) (dv c.2.1)) 1, ()) := by
                unfold S.s_l01Cmp
                dsimp only
                rw [if_pos ⟨canon_nd B10_le _, canon_one B10_le, by omega⟩, dval_nd B10_le, dval_one]
              rw [if_neg (by simpa using hcm), e2, Option.bind_some]
              dsimp only
              rw [e3, Option.bind_some]
              dsimp only
              by_cases hg : Nat.gcd (dv c.1) (dv c.2.1) = 1
              · rw [if_neg (by simpa using cmpN_zero.2 hg), if_pos ⟨rfl, h1, hg⟩]
                rfl
              · rw [if_pos (by simpa using fun q => hg (cmpN_zero.1 q)), if_neg (fun q => hg q.2.2)]
            · have hcm : cmpN (dv c.2.1) 1 ≤ 0 := by
                have h2 : ¬ (cmpN (dv c.2.1) 1 > 0) := fun q => h1 ((cmpN_gt (a := dv c.2.1) (b := 1)).1 q)
                omega
              rw [if_pos (decide_eq_true hcm), if_neg (fun q => h1 q.2.1)]
        have hm : ¬ ((false : Bool) = true ∧ dv c.1 = 0) := fun q => by cases q.1
        rw [if_pos ⟨rfl, fun q => q.1⟩]
        exact hrest false hm
    · -- three parts or more
      rw [hf2, if_pos rfl] at hp
      have hl : ps.length = 2 + (pieces 47 (cutP 47 c.2.1).2.1).length := by
        have := congrArg List.length hp
        simp at this
        omega
      have hl2 : (pieces 47 (cutP 47 c.2.1).2.1).length ≠ 0 := fun q => pieces_ne 47 _ (List.eq_nil_of_length_eq_zero q)
      have l1 : ((ps.length : Nat) : Int) > 2 := by omega
      have hx : ¬ (okN c.2.1 = true ∧ 1 < dv c.2.1 ∧ Nat.gcd (dv c.1) (dv c.2.1) = 1) := fun q => by
        have := cutP_allD (okN_allD q.1).1
        rw [hf2] at this
        cases this
      rw [if_pos (decide_eq_true l1), if_pos rfl, if_neg hx]
      split <;> rfl
def S.s_l01Parse (x : (ByteArray × Unit)) : (Option (((Bool × ((List Int) × (List Int))) × Bool) × Unit)) := if x.1.size ≤ 1000000 then some ((rp B10 (rdRat x.1.data.toList).1, (rdRat x.1.data.toList).2), ()) else none
theorem S.s_l01Parse_ok (x : (ByteArray × Unit)) (r : _) (h : S.s_l01Parse x = some r) : ∃ k, P.s_l01Parse k x = some r := by
  obtain ⟨s, u⟩ := x
  unfold S.s_l01Parse at h
  dsimp only at h
  split at h
  case isFalse => cases h
  rename_i hsz
  refine ⟨0, ?_⟩
  rw [← h]
  unfold P.s_l01Parse
  dsimp only
  have hs : s.size = s.data.toList.length := by rw [Array.length_toList]; rfl
  unfold rdRat
  by_cases h0 : s.data.toList = []
  · have l1 : ¬ ((s.size : Int) > 0) := by rw [hs, h0]; simp
    rw [if_neg (by simpa using l1), h0, if_neg (by simp), ← h0]
    exact pp_plain s hsz
  · have hpos : 0 < s.data.toList.length := List.length_pos_iff.2 h0
    have l1 : (s.size : Int) > 0 := by omega
    have l2 : (0 : Int) < (s.size : Int) := by omega
    have l3 : (0 : Int) ≤ (s.size : Int) := by omega
    have l4 : (1 : Int) ≤ (s.size : Int) := by omega
    have hb : byteAt s 0 = (s.data.toList[0].toNat : Int) := congrArg (fun c : UInt8 => (c.toNat : Int)) (getD_cast s.data.toList 0 0 hpos)
    have hh : s.data.toList.head? = some s.data.toList[0] := by
      generalize s.data.toList = l at *
      cases l with
      | nil => simp at h0
      | cons c r => rfl
    rw [if_pos (decide_eq_true l1), if_pos (decide_eq_true l2), hh, Int.toNat_natCast]
    by_cases c1 : s.data.toList[0] = 45
    · have hn : (byteAt s 0 == 45) = true := by
        rw [hb, c1]
        rfl
      have hx : (ByteArray.extract s 1 s.size).data.toList = s.data.toList.tail := by
        rw [ext_list, List.take_of_length_le (by omega), List.drop_one]
      have hxs : (ByteArray.extract s 1 s.size).size ≤ 1000000 := by
        have : (ByteArray.extract s 1 s.size).size = (ByteArray.extract s 1 s.size).data.toList.length := by rw [Array.length_toList]; rfl
        rw [this, hx]
        simp
        omega
      rw [hn, if_pos rfl, if_pos (decide_eq_true l3), if_pos (decide_eq_true (Int.le_refl _)), if_pos (decide_eq_true l4), if_pos (by rw [c1])]
      have := pp_sign (ByteArray.extract s 1 s.size) true hxs
      rw [hx] at this
      exact this
    · have hn : (byteAt s 0 == 45) = false := by
        rw [hb, beq_eq_false_iff_ne]
        intro q
        apply c1
        apply UInt8.toNat_inj.1
        show _ = 45
        omega
      rw [hn, if_neg (show ¬ ((false : Bool) = true) by decide), if_neg (by rw [Option.some.injEq]; exact c1)]
      exact pp_sign s false hsz
abbrev P.s_l01List_b0  (x1 : (Int × (Int × ((List ByteArray) × ((List (Bool × ((List Int) × (List Int)))) × Unit))))) (g2 : (Int × (Int × ((List ByteArray) × ((List (Bool × ((List Int) × (List Int)))) × Unit)))) → Option (((List (Bool × ((List Int) × (List Int)))) × Bool) × Unit)) : Option (((List (Bool × ((List Int) × (List Int)))) × Bool) × Unit) :=
 (if ((decide (x1.1 < x1.2.1)) = true) then (if ((decide ((0 : Int) ≤ x1.1)) = true) then (if ((decide (x1.1 < (((List.length x1.2.2.1) : Nat) : Int))) = true) then (Option.bind (S.s_l01Parse ((List.getD x1.2.2.1 (Int.toNat x1.1) (bs [])) , ())) (fun (y3 : (((Bool × ((List Int) × (List Int))) × Bool) × Unit)) => (if ((!y3.1.2) = true) then (some ((([] : List (Bool × ((List Int) × (List Int)))) , false) , ()))
 else (if ((decide ((((List.length x1.2.2.2.1) + (List.length ((y3.1.1.1 , (y3.1.1.2.1 , y3.1.1.2.2)) :: ([] : List (Bool × ((List Int) × (List Int))))))) * (56 : Nat)) ≤ (140737488355328 : Nat))) = true) then (g2 ((Go.IntKind.wrap Go.IntKind.i64 (x1.1 + (1 : Int))) , (x1.2.1 , (x1.2.2.1 , ((x1.2.2.2.1 ++ ((y3.1.1.1 , (y3.1.1.2.1 , y3.1.1.2.2)) :: ([] : List (Bool × ((List Int) × (List Int)))))) , ())))))
 else none))))
 else none)
 else none)
 else (some ((x1.2.2.2.1 , true) , ())))
def P.s_l01List (k : Nat) (x : ((List ByteArray) × Unit)) : (Option (((List (Bool × ((List Int) × (List Int)))) × Bool) × Unit)) :=
 (if ((decide ((((List.length x.1) : Nat) : Int) > (300 : Int))) = true) then (some ((([] : List (Bool × ((List Int) × (List Int)))) , false) , ()))
 else (loopP (X := (Int × (Int × ((List ByteArray) × ((List (Bool × ((List Int) × (List Int)))) × Unit))))) (R := (((List (Bool × ((List Int) × (List Int)))) × Bool) × Unit)) (P.s_l01List_b0 ) k ((0 : Int) , ((((List.length x.1) : Nat) : Int) , (x.1 , (([] : List (Bool × ((List Int) × (List Int)))) , ()))))))
open Classical in
def S.s_l01List (x : ((List ByteArray) × Unit)) : (Option (((List (Bool × ((List Int) × (List Int)))) × Bool) × Unit)) := if okT x.1 = true then some (((rdAll x.1).1.map (rp B10), (rdAll x.1).2), ()) else none
theorem s_l01List_read (s : ByteArray) (h : s.size ≤ 1000000) : S.s_l01Parse (s, ()) = some ((rp B10 (rdRat s.data.toList).1, (rdRat s.data.toList).2), ()) := by
  unfold S.s_l01Parse
  exact if_pos (by dsimp only; omega)
theorem S.s_l01List_ok (x : ((List ByteArray) × Unit)) (r : _) (h : S.s_l01List x = some r) : ∃ k, P.s_l01List k x = some r := by
  obtain ⟨ls, u⟩ := x
  unfold S.s_l01List at h
  dsimp only at h
  split at h
  case isFalse => cases h
  rename_i hc
  cases h
  refine ⟨ls.length + 1, ?_⟩
  unfold P.s_l01List rdAll
  dsimp only
  by_cases hl : (ls.length : Int) > 300
  · rw [if_pos (decide_eq_true hl), if_neg (show ¬ (ls.length ≤ 300 ∧ (ls.all fun s => (rdRat s.data.toList).2) = true) from fun z => by omega)]
    rfl
  rw [if_neg (by simpa using hl)]
  have key := loop_up0 (k := ls.length + 1) (b := P.s_l01List_b0) (n := ls.length) (st := fun i => ((i : Int), (ls.length : Int), ls, (ls.take i).map (fun s => rp B10 (rdRat s.data.toList).1), ())) (F := fun i => some (if ((ls.drop i).all fun s => (rdRat s.data.toList).2) = true then (ls.map (fun s => rp B10 (rdRat s.data.toList).1), true) else ([], false), ())) (fun i g hi hg => by
    unfold P.s_l01List_b0
    dsimp only at hg ⊢
    have e1 : (i : Int) < (ls.length : Int) := by omega
    have e2 : (0 : Int) ≤ (i : Int) := by omega
    simp only [e1, e2, decide_true, if_true]
    rw [getD_cast ls i _ hi, s_l01List_read _ (okT_get hc hi), Option.bind_some, List.drop_eq_getElem_cons hi, List.all_cons]
    dsimp only
    cases hf : (rdRat ls[i].data.toList).2
    · rw [if_pos (by rfl), if_neg (by simp)]
    · rw [if_neg (by simp), wr (by omega) (by omega), Bool.true_and, ← hg]
      have e3 : ((List.map (fun s : ByteArray => rp B10 (rdRat s.data.toList).1) (ls.take i)).length + 1) * 56 ≤ 140737488355328 := by
        rw [List.length_map, List.length_take]
        omega
      simp only [List.length_cons, List.length_nil, Nat.zero_add]
      rw [if_pos (decide_eq_true e3), List.take_add_one, List.getElem?_eq_getElem hi, Option.toList_some, List.map_append]
      rfl) (fun g => by
    unfold P.s_l01List_b0
    dsimp only
    rw [if_neg (by simp), List.take_length, List.drop_length]
    rfl) (by omega)
  refine key.trans ?_
  rw [List.drop_zero]
  by_cases ha : (ls.all fun s => (rdRat s.data.toList).2) = true
  · rw [if_pos ha, if_pos (show ls.length ≤ 300 ∧ (ls.all fun s => (rdRat s.data.toList).2) = true from ⟨by omega, ha⟩), List.map_map]
    rfl
  · rw [if_neg ha, if_neg (fun z => ha z.2)]
    rfl
def P.s_l01Zero (k : Nat) (x : ((Bool × ((List Int) × (List Int))) × Unit)) : (Option (Bool × Unit)) :=
 (some (((((List.length x.1.2.1) : Nat) : Int) == (0 : Int)) , ()))
def S.s_l01Zero (x : ((Bool × ((List Int) × (List Int))) × Unit)) : (Option (Bool × Unit)) := P.s_l01Zero 0 x
theorem S.s_l01Zero_ok (x : ((Bool × ((List Int) × (List Int))) × Unit)) (r : _) (h : S.s_l01Zero x = some r) : ∃ k, P.s_l01Zero k x = some r := ⟨0, h⟩
def P.s_l01Neg (k : Nat) (x : ((Bool × ((List Int) × (List Int))) × Unit)) : (Option (Bool × Unit)) :=
 (some (x.1.1 , ()))
def S.s_l01Neg (x : ((Bool × ((List Int) × (List Int))) × Unit)) : (Option (Bool × Unit)) := P.s_l01Neg 0 x
theorem S.s_l01Neg_ok (x : ((Bool × ((List Int) × (List Int))) × Unit)) (r : _) (h : S.s_l01Neg x = some r) : ∃ k, P.s_l01Neg k x = some r := ⟨0, h⟩
abbrev P.s_l02Above_b0  (x1 : (Int × ((List (Bool × ((List Int) × (List Int)))) × Unit))) (g2 : (Int × ((List (Bool × ((List Int) × (List Int)))) × Unit)) → Option (Bool × Unit)) : Option (Bool × Unit) :=
 (if ((decide (x1.1 < (((List.length x1.2.1) : Nat) : Int))) = true) then (if ((decide ((0 : Int) ≤ x1.1)) = true) then (if ((decide (x1.1 < (((List.length x1.2.1) : Nat) : Int))) = true) then (Option.bind (S.s_l01Zero (((List.getD x1.2.1 (Int.toNat x1.1) (false , (([] : List Int) , ([] : List Int)))).1 , ((List.getD x1.2.1 (Int.toNat x1.1) (false , (([] : List Int) , ([] : List Int)))).2.1 , (List.getD x1.2.1 (Int.toNat x1.1) (false , (([] : List Int) , ([] : List Int)))).2.2)) , ())) (fun (y3 : (Bool × Unit)) => (if (y3.1 = true) then (some (false , ()))
 else (if ((decide ((0 : Int) ≤ x1.1)) = true) then (if ((decide (x1.1 < (((List.length x1.2.1) : Nat) : Int))) = true) then (Option.bind (S.s_l01Neg (((List.getD x1.2.1 (Int.toNat x1.1) (false , (([] : List Int) , ([] : List Int)))).1 , ((List.getD x1.2.1 (Int.toNat x1.1) (false , (([] : List Int) , ([] : List Int)))).2.1 , (List.getD x1.2.1 (Int.toNat x1.1) (false , (([] : List Int) , ([] : List Int)))).2.2)) , ())) (fun (y4 : (Bool × Unit)) => (if (y4.1 = true) then (some (false , ()))
 else (g2 ((Go.IntKind.wrap Go.IntKind.i64 (x1.1 + (1 : Int))) , (x1.2.1 , ()))))))
 else none)
 else none))))
 else none)
 else none)
 else (some (true , ())))
def P.s_l02Above (k : Nat) (x : ((List (Bool × ((List Int) × (List Int)))) × Unit)) : (Option (Bool × Unit)) :=
 (loopP (X := (Int × ((List (Bool × ((List Int) × (List Int)))) × Unit))) (R := (Bool × Unit)) (P.s_l02Above_b0 ) k ((0 : Int) , (x.1 , ())))
theorem sp_zero (r : Q3) : S.s_l01Zero (rp B10 r, ()) = some (decide (r.2.1 = 0), ()) := by
  unfold S.s_l01Zero P.s_l01Zero rp
  dsimp only
  by_cases h : r.2.1 = 0
  · rw [h, nd_zero B10_le]
    rfl
  · have := List.length_pos_iff.2 (nd_ne B10_le h)
    simp [h]
    exact nd_ne B10_le h
open Classical in
def S.s_l02Above (x : ((List (Bool × ((List Int) × (List Int)))) × Unit)) : (Option (Bool × Unit)) := if goodL B10 x.1 then some (ratesB (x.1.map (rv B10)), ()) else none
theorem S.s_l02Above_ok (x : ((List (Bool × ((List Int) × (List Int)))) × Unit)) (r : _) (h : S.s_l02Above x = some r) : ∃ k, P.s_l02Above k x = some r := by
  obtain ⟨xs, u⟩ := x
  unfold S.s_l02Above at h
  dsimp only at h
  split at h
  case isFalse => cases h
  rename_i hc
  cases h
  obtain ⟨qs, n, rfl, hg⟩ := hc
  have hlen := good_len hg
  refine ⟨qs.length + 1, ?_⟩
  unfold P.s_l02Above
  dsimp only
  have key := loop_up0 (k := qs.length + 1) (b := P.s_l02Above_b0) (n := qs.length) (st := fun i => ((i : Int), qs.map (rp B10), ())) (F := fun i => some (ratesB (qs.drop i), ())) (fun i g hi hg' => by
    unfold P.s_l02Above_b0
    dsimp only at hg' ⊢
    have e2 : (0 : Int) ≤ (i : Int) := by omega
    have e3 : (i : Int) < ((qs.map (rp B10)).length : Int) := by rw [List.length_map]; omega
    simp only [e2, e3, decide_true, if_true]
    rw [getD_cast (qs.map (rp B10)) i _ (by rw [List.length_map]; exact hi), List.getElem_map]
    have hr := good_get (B := B10) (by decide) hg hi
    rw [lowb_iff, rv_rp B10_le] at hr
    have hz : S.s_l01Zero (rp B10 qs[i], ()) = some (decide (qs[i].2.1 = 0), ()) := sp_zero _
    have hn : S.s_l01Neg (rp B10 qs[i], ()) = some (qs[i].1, ()) := rfl
    show Option.bind (S.s_l01Zero (rp B10 qs[i], ())) _ = _
    rw [hz, Option.bind_some, List.drop_eq_getElem_cons hi]
    unfold ratesB at hg' ⊢
    rw [List.all_cons]
    dsimp only
    have hp : posQ qs[i] = (!qs[i].1 && decide (qs[i].2.1 ≠ 0)) := rfl
    by_cases h0 : qs[i].2.1 = 0
    · rw [if_pos (decide_eq_true h0), hp]
      simp [h0]
    · rw [if_neg (by simpa using h0)]
      show Option.bind (S.s_l01Neg (rp B10 qs[i], ())) _ = _
      rw [hn, Option.bind_some, hp]
      dsimp only
      cases hs : qs[i].1
      · rw [if_neg (by decide), wr (by omega) (by omega), decide_eq_true h0]
        exact hg'
      · rfl) (fun g => by
    unfold P.s_l02Above_b0
    dsimp only
    rw [if_neg (by simp), List.drop_length]
    rfl) (by omega)
  rw [map_rv B10_le]
  refine key.trans ?_
  rw [List.drop_zero]
def P.s_l02Parse (k : Nat) (x : (((List ByteArray) × (List ByteArray)) × Unit)) : (Option ((((List (Bool × ((List Int) × (List Int)))) × (List (Bool × ((List Int) × (List Int))))) × Bool) × Unit)) :=
 (if ((decide ((((List.length x.1.1) : Nat) : Int) < (1 : Int))) = true) then (some (((([] : List (Bool × ((List Int) × (List Int)))) , ([] : List (Bool × ((List Int) × (List Int))))) , false) , ()))
 else (if ((decide ((((List.length x.1.1) : Nat) : Int) > (20 : Int))) = true) then (some (((([] : List (Bool × ((List Int) × (List Int)))) , ([] : List (Bool × ((List Int) × (List Int))))) , false) , ()))
 else (if (((((List.length x.1.2) : Nat) : Int) != (((List.length x.1.1) : Nat) : Int)) = true) then (some (((([] : List (Bool × ((List Int) × (List Int)))) , ([] : List (Bool × ((List Int) × (List Int))))) , false) , ()))
 else (Option.bind (S.s_l01List (x.1.1 , ())) (fun (y0 : (((List (Bool × ((List Int) × (List Int)))) × Bool) × Unit)) => (Option.bind (S.s_l01List (x.1.2 , ())) (fun (y1 : (((List (Bool × ((List Int) × (List Int)))) × Bool) × Unit)) => (if ((!y0.1.2) = true) then (some (((([] : List (Bool × ((List Int) × (List Int)))) , ([] : List (Bool × ((List Int) × (List Int))))) , false) , ()))
 else (if ((!y1.1.2) = true) then (some (((([] : List (Bool × ((List Int) × (List Int)))) , ([] : List (Bool × ((List Int) × (List Int))))) , false) , ()))
 else (Option.bind (S.s_l02Above (y0.1.1 , ())) (fun (y2 : (Bool × Unit)) => (if ((!y2.1) = true) then (some (((([] : List (Bool × ((List Int) × (List Int)))) , ([] : List (Bool × ((List Int) × (List Int))))) , false) , ()))
 else (Option.bind (S.s_l02Above (y1.1.1 , ())) (fun (y3 : (Bool × Unit)) => (if ((!y3.1) = true) then (some (((([] : List (Bool × ((List Int) × (List Int)))) , ([] : List (Bool × ((List Int) × (List Int))))) , false) , ()))
 else (some (((y0.1.1 , y1.1.1) , true) , ())))))))))))))))))
def S.s_l02Parse (x : (((List ByteArray) × (List ByteArray)) × Unit)) : (Option ((((List (Bool × ((List Int) × (List Int)))) × (List (Bool × ((List Int) × (List Int))))) × Bool) × Unit)) := if okT x.1.1 = true ∧ okT x.1.2 = true then some ((((lineQ x.1.1 x.1.2).1.1.map (rp B10), (lineQ x.1.1 x.1.2).1.2.map (rp B10)), (lineQ x.1.1 x.1.2).2), ()) else none
theorem S.s_l02Parse_ok (x : (((List ByteArray) × (List ByteArray)) × Unit)) (r : _) (h : S.s_l02Parse x = some r) : ∃ k, P.s_l02Parse k x = some r := by
  obtain ⟨⟨us, ds⟩, u⟩ := x
  unfold S.s_l02Parse at h
  dsimp only at h
  split at h
  case isFalse => cases h
  rename_i hc
  cases h
  refine ⟨0, ?_⟩
  unfold P.s_l02Parse S.s_l01List lineQ
  dsimp only
  by_cases h1 : 1 ≤ us.length
  case neg =>
    rw [if_pos (decide_eq_true (show (us.length : Int) < 1 by omega))]
    simp [h1]
  rw [if_neg (by simpa using (show ¬ (us.length : Int) < 1 by omega))]
  by_cases h2 : us.length ≤ 20
  case neg =>
    rw [if_pos (decide_eq_true (show (us.length : Int) > 20 by omega))]
    simp [h2]
  rw [if_neg (by simpa using (show ¬ (us.length : Int) > 20 by omega))]
  by_cases h3 : ds.length = us.length
  case neg =>
    rw [if_pos (by simp; omega)]
    simp [h3]
  rw [if_neg (by simp; omega), if_pos hc.1, if_pos hc.2, Option.bind_some, Option.bind_some]
  dsimp only
  rw [decide_eq_true h1, decide_eq_true h2, decide_eq_true h3]
  simp only [Bool.true_and]
  cases hu : (rdAll us).2
  · rfl
  cases hd : (rdAll ds).2
  · rfl
  have gu := rdAll_goodL (B := B10) hu
  have gd := rdAll_goodL (B := B10) hd
  have cu : S.s_l02Above ((rdAll us).1.map (rp B10), ()) = some (ratesB (rdAll us).1, ()) := by
    unfold S.s_l02Above
    dsimp only
    rw [if_pos gu, map_rv B10_le]
  have cd : S.s_l02Above ((rdAll ds).1.map (rp B10), ()) = some (ratesB (rdAll ds).1, ()) := by
    unfold S.s_l02Above
    dsimp only
    rw [if_pos gd, map_rv B10_le]
  simp only [Bool.not_true, Bool.false_eq_true, if_false]
  rw [cu, Option.bind_some]
  dsimp only
  cases hx : ratesB (rdAll us).1
  · rfl
  rw [if_neg (by decide), cd, Option.bind_some]
  dsimp only
  cases hy : ratesB (rdAll ds).1
  · rfl
  · rfl
abbrev P.s_l01Dec_b0  (x1 : ((List Int) × (Int × (Int × Unit)))) (g2 : ((List Int) × (Int × (Int × Unit))) → Option (ByteArray × Unit)) : Option (ByteArray × Unit) :=
 (if (((((List.length x1.1) : Nat) : Int) == (0 : Int)) = true) then (if ((decide ((Int.tmod x1.2.1 (10 : Int)) < (0 : Int))) = true) then (if ((decide ((((List.length ((Go.IntKind.wrap Go.IntKind.u8 (Go.IntKind.wrap Go.IntKind.i64 ((48 : Int) + (Go.IntKind.wrap Go.IntKind.i64 ((0 : Int) - (Int.tmod x1.2.1 (10 : Int))))))) :: ([] : List Int))) + (List.length x1.1)) * (1 : Nat)) ≤ (140737488355328 : Nat))) = true) then (g2 ((((Go.IntKind.wrap Go.IntKind.u8 (Go.IntKind.wrap Go.IntKind.i64 ((48 : Int) + (Go.IntKind.wrap Go.IntKind.i64 ((0 : Int) - (Int.tmod x1.2.1 (10 : Int))))))) :: ([] : List Int)) ++ x1.1) , ((Go.IntKind.wrap Go.IntKind.i64 (Int.tdiv x1.2.1 (10 : Int))) , (x1.2.2.1 , ()))))
 else none)
 else (if ((decide ((((List.length ((Go.IntKind.wrap Go.IntKind.u8 (Go.IntKind.wrap Go.IntKind.i64 ((48 : Int) + (Int.tmod x1.2.1 (10 : Int))))) :: ([] : List Int))) + (List.length x1.1)) * (1 : Nat)) ≤ (140737488355328 : Nat))) = true) then (g2 ((((Go.IntKind.wrap Go.IntKind.u8 (Go.IntKind.wrap Go.IntKind.i64 ((48 : Int) + (Int.tmod x1.2.1 (10 : Int))))) :: ([] : List Int)) ++ x1.1) , ((Go.IntKind.wrap Go.IntKind.i64 (Int.tdiv x1.2.1 (10 : Int))) , (x1.2.2.1 , ()))))
 else none))
 else (if ((x1.2.1 != (0 : Int)) = true) then (if ((decide ((Int.tmod x1.2.1 (10 : Int)) < (0 : Int))) = true) then (if ((decide ((((List.length ((Go.IntKind.wrap Go.IntKind.u8 (Go.IntKind.wrap Go.IntKind.i64 ((48 : Int) + (Go.IntKind.wrap Go.IntKind.i64 ((0 : Int) - (Int.tmod x1.2.1 (10 : Int))))))) :: ([] : List Int))) + (List.length x1.1)) * (1 : Nat)) ≤ (140737488355328 : Nat))) = true) then (g2 ((((Go.IntKind.wrap Go.IntKind.u8 (Go.IntKind.wrap Go.IntKind.i64 ((48 : Int) + (Go.IntKind.wrap Go.IntKind.i64 ((0 : Int) - (Int.tmod x1.2.1 (10 : Int))))))) :: ([] : List Int)) ++ x1.1) , ((Go.IntKind.wrap Go.IntKind.i64 (Int.tdiv x1.2.1 (10 : Int))) , (x1.2.2.1 , ()))))
 else none)
 else (if ((decide ((((List.length ((Go.IntKind.wrap Go.IntKind.u8 (Go.IntKind.wrap Go.IntKind.i64 ((48 : Int) + (Int.tmod x1.2.1 (10 : Int))))) :: ([] : List Int))) + (List.length x1.1)) * (1 : Nat)) ≤ (140737488355328 : Nat))) = true) then (g2 ((((Go.IntKind.wrap Go.IntKind.u8 (Go.IntKind.wrap Go.IntKind.i64 ((48 : Int) + (Int.tmod x1.2.1 (10 : Int))))) :: ([] : List Int)) ++ x1.1) , ((Go.IntKind.wrap Go.IntKind.i64 (Int.tdiv x1.2.1 (10 : Int))) , (x1.2.2.1 , ()))))
 else none))
 else (if ((decide (x1.2.2.1 < (0 : Int))) = true) then (if ((decide ((((1 : Nat) + (List.length x1.1)) * (1 : Nat)) ≤ (140737488355328 : Nat))) = true) then (some ((strOf (((45 : Int) :: ([] : List Int)) ++ x1.1)) , ()))
 else none)
 else (some ((strOf x1.1) , ())))))
def P.s_l01Dec (k : Nat) (x : (Int × Unit)) : (Option (ByteArray × Unit)) :=
 (loopP (X := ((List Int) × (Int × (Int × Unit)))) (R := (ByteArray × Unit)) (P.s_l01Dec_b0 ) k (([] : List Int) , (x.1 , (x.1 , ()))))
/-- A number's digits, as Go's bytes. -/
def digI (u : Nat) : List Int := (Go.Lib.decDigits u).map fun b => (b.toNat : Int)
theorem digI_small {u : Nat} (h : u < 10) : digI u = [48 + (u : Int)] := by
  unfold digI
  rw [Go.Lib.decDigits, dif_pos h]
  simp only [List.map_cons, List.map_nil, List.cons.injEq, and_true]
  rw [UInt8.toNat_ofNat']
  omega
theorem digI_step {u : Nat} (h : ¬ u < 10) : digI u = digI (u / 10) ++ [48 + ((u % 10 : Nat) : Int)] := by
  unfold digI
  rw [Go.Lib.decDigits, dif_neg h, List.map_append]
  simp only [List.map_cons, List.map_nil]
  rw [UInt8.toNat_ofNat']
  congr 2
  omega
theorem digI_len (u : Nat) : (digI u).length ≤ u + 1 := by
  induction u using Nat.strongRecOn with
  | ind u ih =>
    by_cases h : u < 10
    · rw [digI_small h]; simp
    · rw [digI_step h, List.length_append]
      have := ih (u / 10) (by omega)
      simp
      omega
theorem strOf_map (l : List UInt8) : strOf (l.map fun b => (b.toNat : Int)) = ⟨l.toArray⟩ := by
  unfold strOf
  rw [List.map_map]
  have : ((fun n : Int => UInt8.ofNat n.toNat) ∘ fun b : UInt8 => (b.toNat : Int)) = id := by
    funext b
    simp
  rw [this, List.map_id]
theorem wr8 {x : Int} (h0 : 0 ≤ x) (h1 : x ≤ 255) : Go.IntKind.wrap Go.IntKind.u8 x = x := by
  show x % 256 = x
  omega
def sgn (neg : Bool) (u : Nat) : Int := if neg = true then -(u : Int) else (u : Int)
theorem sgn_tmod (neg : Bool) (u : Nat) : Int.tmod (sgn neg u) 10 = sgn neg (u % 10) := by
  cases neg
  · show Int.tmod (u : Int) 10 = ((u % 10 : Nat) : Int)
    rw [Int.tmod_eq_emod_of_nonneg (by omega)]
    omega
  · show Int.tmod (-(u : Int)) 10 = -((u % 10 : Nat) : Int)
    rw [Int.neg_tmod, Int.tmod_eq_emod_of_nonneg (by omega)]
    omega
theorem sgn_tdiv (neg : Bool) (u : Nat) : Int.tdiv (sgn neg u) 10 = sgn neg (u / 10) := by
  cases neg
  · show Int.tdiv (u : Int) 10 = ((u / 10 : Nat) : Int)
    rw [Int.tdiv_eq_ediv_of_nonneg (by omega)]
    omega
  · show Int.tdiv (-(u : Int)) 10 = -((u / 10 : Nat) : Int)
    rw [Int.neg_tdiv, Int.tdiv_eq_ediv_of_nonneg (by omega)]
    omega
/-- One round writes one digit. -/
theorem dec_round (neg : Bool) (u : Nat) (n : Int) (out : List Int) (g : ((List Int) × (Int × (Int × Unit))) → Option (ByteArray × Unit)) (hu : u ≤ 9223372036854775808) (hs : neg = false → u ≤ 9223372036854775807) (ho : out.length ≤ 1000) (hc : out = [] ∨ u ≠ 0) :
    P.s_l01Dec_b0 (out, sgn neg u, n, ()) g = g ((48 + ((u % 10 : Nat) : Int)) :: out, sgn neg (u / 10), n, ()) := by
  have hw : Go.IntKind.wrap Go.IntKind.i64 (sgn neg (u / 10)) = sgn neg (u / 10) := by
    apply wr <;> unfold sgn <;> split <;> omega
  have hA : ∀ (a b : Option (ByteArray × Unit)), (if ((decide (sgn neg (u % 10) < (0 : Int))) = true) then a else b) = (if (sgn neg (u % 10) < 0) then a else b) := by
    intro a b
    by_cases h : sgn neg (u % 10) < 0 <;> simp [h]
  have hneg : sgn neg (u % 10) < 0 → Go.IntKind.wrap Go.IntKind.i64 ((0 : Int) - sgn neg (u % 10)) = ((u % 10 : Nat) : Int) := by
    intro h
    unfold sgn at h ⊢
    split at h
    · rename_i hn
      rw [if_pos hn, wr (by omega) (by omega)]
      omega
    · omega
  have hpos : ¬ sgn neg (u % 10) < 0 → sgn neg (u % 10) = ((u % 10 : Nat) : Int) := by
    intro h
    unfold sgn at h ⊢
    split at h
    · rename_i hn
      rw [if_pos hn]
      omega
    · rename_i hn
      rw [if_neg hn]
  have hch : Go.IntKind.wrap Go.IntKind.u8 (Go.IntKind.wrap Go.IntKind.i64 ((48 : Int) + ((u % 10 : Nat) : Int))) = 48 + ((u % 10 : Nat) : Int) := by
    rw [wr (by omega) (by omega), wr8 (by omega) (by omega)]
  have hlen : ∀ c : Int, ((List.length (c :: ([] : List Int)) + List.length out) * 1 ≤ 140737488355328) := by
    intro c
    simp
    omega
  unfold P.s_l01Dec_b0
  dsimp only
  have hu0 : u ≠ 0 → sgn neg u ≠ 0 := by
    intro h
    unfold sgn
    split <;> omega
  simp only [hA, sgn_tmod, sgn_tdiv, hw]
  have hin : ∀ X Y : Option (ByteArray × Unit), (sgn neg (u % 10) < 0 → X = g ((48 + ((u % 10 : Nat) : Int)) :: out, sgn neg (u / 10), n, ())) → (¬ sgn neg (u % 10) < 0 → Y = g ((48 + ((u % 10 : Nat) : Int)) :: out, sgn neg (u / 10), n, ())) →
      (if sgn neg (u % 10) < 0 then X else Y) = g ((48 + ((u % 10 : Nat) : Int)) :: out, sgn neg (u / 10), n, ()) := by
    intro X Y h1 h2
    split
    · exact h1 (by assumption)
    · exact h2 (by assumption)
  have key : (if sgn neg (u % 10) < 0 then (if ((decide (((List.length ((Go.IntKind.wrap Go.IntKind.u8 (Go.IntKind.wrap Go.IntKind.i64 ((48 : Int) + (Go.IntKind.wrap Go.IntKind.i64 ((0 : Int) - sgn neg (u % 10)))))) :: ([] : List Int)) + (List.length out)) * (1 : Nat)) ≤ (140737488355328 : Nat))) = true) then (g ((((Go.IntKind.wrap Go.IntKind.u8 (Go.IntKind.wrap Go.IntKind.i64 ((48 : Int) + (Go.IntKind.wrap Go.IntKind.i64 ((0 : Int) - sgn neg (u % 10)))))) :: ([] : List Int)) ++ out) , (sgn neg (u / 10) , (n , ())))) else none)
      else (if ((decide (((List.length ((Go.IntKind.wrap Go.IntKind.u8 (Go.IntKind.wrap Go.IntKind.i64 ((48 : Int) + sgn neg (u % 10)))) :: ([] : List Int)) + (List.length out)) * (1 : Nat)) ≤ (140737488355328 : Nat))) = true) then (g ((((Go.IntKind.wrap Go.IntKind.u8 (Go.IntKind.wrap Go.IntKind.i64 ((48 : Int) + sgn neg (u % 10)))) :: ([] : List Int)) ++ out) , (sgn neg (u / 10) , (n , ())))) else none)) = g ((48 + ((u % 10 : Nat) : Int)) :: out, sgn neg (u / 10), n, ()) := by
    refine hin _ _ (fun h => ?_) (fun h => ?_)
    · rw [if_pos (decide_eq_true (hlen _)), hneg h, hch]
      rfl
    · rw [if_pos (decide_eq_true (hlen _)), hpos h, hch]
      rfl
  rcases hc with rfl | hc
  · rw [if_pos (by rfl)]
    exact key
  · by_cases ho' : ((((List.length out) : Nat) : Int) == (0 : Int)) = true
    · rw [if_pos ho']
      exact key
    · rw [if_neg ho', if_pos (by simpa using hu0 hc)]
      exact key
theorem dec_end (neg : Bool) (n : Int) (out : List Int) (g : ((List Int) × (Int × (Int × Unit))) → Option (ByteArray × Unit)) (ho : out.length ≤ 1000) (hc : out ≠ []) :
    P.s_l01Dec_b0 (out, sgn neg 0, n, ()) g = some (strOf (if n < 0 then 45 :: out else out), ()) := by
  unfold P.s_l01Dec_b0
  dsimp only
  have h0 : sgn neg 0 = 0 := by cases neg <;> rfl
  rw [if_neg (by simpa using hc), h0, if_neg (by decide)]
  by_cases hn : n < 0
  · rw [if_pos (decide_eq_true hn), if_pos (decide_eq_true (by omega)), if_pos hn]
    rfl
  · rw [if_neg (by simpa using hn), if_neg hn]
theorem dec_loop (neg : Bool) (n : Int) : ∀ (u : Nat) (out : List Int) (k : Nat), u ≠ 0 → u ≤ 9223372036854775808 → (neg = false → u ≤ 9223372036854775807) → out.length + u.log2 ≤ 900 → u.log2 + 2 ≤ k →
    loopP P.s_l01Dec_b0 k (out, sgn neg u, n, ()) = some (strOf (if n < 0 then 45 :: (digI u ++ out) else digI u ++ out), ()) := by
  intro u
  induction u using Nat.strongRecOn with
  | ind u ih =>
    intro out k h0 hu hs ho hk
    obtain ⟨k, rfl⟩ : ∃ j, k = j + 1 := ⟨k - 1, by omega⟩
    rw [loopP_succ, dec_round neg u n out _ hu hs (by omega) (.inr h0)]
    by_cases h : u < 10
    · have e : u / 10 = 0 := by omega
      obtain ⟨k, rfl⟩ : ∃ j, k = j + 1 := ⟨k - 1, by omega⟩
      rw [e, loopP_succ, dec_end neg n _ _ (by simp; omega) (by simp), digI_small h, Nat.mod_eq_of_lt h]
      rfl
    · have hl : (u / 10).log2 + 1 ≤ u.log2 := by
        have h2 : u / 10 ≠ 0 := by omega
        have a1 : 2 ^ (u / 10).log2 ≤ u / 10 := Nat.log2_self_le h2
        have a2 : 2 ^ ((u / 10).log2 + 1) ≤ u := by rw [Nat.pow_succ]; omega
        exact (Nat.le_log2 h0).2 a2
      rw [ih (u / 10) (by omega) _ k (by omega) (by omega) (fun hn => by have := hs hn; omega) (by simp; omega) (by omega), digI_step h]
      simp
def S.s_l01Dec (x : (Int × Unit)) : (Option (ByteArray × Unit)) := if -9223372036854775808 ≤ x.1 ∧ x.1 ≤ 9223372036854775807 then some (⟨(Go.Lib.itoa x.1).toArray⟩, ()) else none
theorem S.s_l01Dec_ok (x : (Int × Unit)) (r : _) (h : S.s_l01Dec x = some r) : ∃ k, P.s_l01Dec k x = some r := by
  obtain ⟨n, u⟩ := x
  unfold S.s_l01Dec at h
  dsimp only at h
  split at h
  case isFalse => cases h
  rename_i hn
  cases h
  refine ⟨200, ?_⟩
  unfold P.s_l01Dec
  dsimp only
  have hsg : ∃ neg, n = sgn neg n.natAbs ∧ (neg = true ↔ n < 0) := by
    by_cases h : n < 0
    · exact ⟨true, by unfold sgn; simp; omega, by simp [h]⟩
    · exact ⟨false, by unfold sgn; simp; omega, by simp [h]⟩
  obtain ⟨neg, h1, h2⟩ := hsg
  have hfin : strOf (if n < 0 then 45 :: digI n.natAbs else digI n.natAbs) = ⟨(Go.Lib.itoa n).toArray⟩ := by
    unfold Go.Lib.itoa digI
    split
    · rw [← strOf_map]
      rfl
    · rw [← strOf_map]
      have : n.natAbs = n.toNat := by omega
      rw [this]
  by_cases h0 : n.natAbs = 0
  · have hn0 : n = 0 := by omega
    subst hn0
    have e0 : (0 : Int) = sgn false 0 := rfl
    show loopP P.s_l01Dec_b0 (198 + 1 + 1) ([], 0, 0, ()) = _
    rw [loopP_succ]
    conv => lhs; rw [show (([] : List Int), (0 : Int), (0 : Int), ()) = ([], sgn false 0, 0, ()) from rfl]
    rw [dec_round false 0 0 [] _ (by omega) (by omega) (by simp) (.inl rfl), loopP_succ, show 0 / 10 = 0 from rfl, dec_end false 0 _ _ (by simp) (by simp), ← hfin]
    rw [show (0 : Int).natAbs = 0 from rfl, digI_small (by omega)]
  · have hb : n.natAbs ≤ 9223372036854775808 := by omega
    have hl : n.natAbs.log2 ≤ 64 := by
      have : n.natAbs.log2 < 65 := (Nat.log2_lt h0).2 (by omega)
      omega
    have := dec_loop neg n n.natAbs [] 200 h0 hb (fun hf => by
      have : ¬ n < 0 := fun h => by rw [h2.2 h] at hf; cases hf
      omega) (by simp; omega) (by omega)
    rw [← h1] at this
    rw [this, List.append_nil, hfin]
abbrev P.s_l01NatText_b1  (x2 : (Int × ((List Int) × (ByteArray × Unit)))) (g3 : (Int × ((List Int) × (ByteArray × Unit))) → Option (ByteArray × Unit)) : Option (ByteArray × Unit) :=
 (if ((decide (x2.1 ≥ (0 : Int))) = true) then (if ((decide ((0 : Int) ≤ x2.1)) = true) then (if ((decide (x2.1 < (((List.length x2.2.1) : Nat) : Int))) = true) then (Option.bind (S.s_l01Dec ((Go.IntKind.wrap Go.IntKind.i64 ((List.getD x2.2.1 (Int.toNat x2.1) (0 : Int)) + (1000000000 : Int))) , ())) (fun (y4 : (ByteArray × Unit)) => (if ((decide ((0 : Int) ≤ (((ByteArray.size y4.1) : Nat) : Int))) = true) then (if ((decide ((((ByteArray.size y4.1) : Nat) : Int) ≤ (((ByteArray.size y4.1) : Nat) : Int))) = true) then (if ((decide ((1 : Int) ≤ (((ByteArray.size y4.1) : Nat) : Int))) = true) then (if ((decide (((ByteArray.size x2.2.2.1) + (ByteArray.size (ByteArray.extract y4.1 (1 : Nat) (Int.toNat (((ByteArray.size y4.1) : Nat) : Int))))) ≤ (9223372036854775807 : Nat))) = true) then (g3 ((Go.IntKind.wrap Go.IntKind.i64 (x2.1 - (1 : Int))) , (x2.2.1 , ((x2.2.2.1 ++ (ByteArray.extract y4.1 (1 : Nat) (Int.toNat (((ByteArray.size y4.1) : Nat) : Int)))) , ()))))
 else none)
 else none)
 else none)
 else none)))
 else none)
 else none)
 else (some (x2.2.2.1 , ())))
def P.s_l01NatText (k : Nat) (x : ((List Int) × Unit)) : (Option (ByteArray × Unit)) :=
 (if (((((List.length x.1) : Nat) : Int) == (0 : Int)) = true) then (some ((bs [48]) , ()))
 else (if ((decide ((0 : Int) ≤ (Go.IntKind.wrap Go.IntKind.i64 ((((List.length x.1) : Nat) : Int) - (1 : Int))))) = true) then (if ((decide ((Go.IntKind.wrap Go.IntKind.i64 ((((List.length x.1) : Nat) : Int) - (1 : Int))) < (((List.length x.1) : Nat) : Int))) = true) then (Option.bind (S.s_l01Dec ((List.getD x.1 (Int.toNat (Go.IntKind.wrap Go.IntKind.i64 ((((List.length x.1) : Nat) : Int) - (1 : Int)))) (0 : Int)) , ())) (fun (y0 : (ByteArray × Unit)) => (loopP (X := (Int × ((List Int) × (ByteArray × Unit)))) (R := (ByteArray × Unit)) (P.s_l01NatText_b1 ) k ((Go.IntKind.wrap Go.IntKind.i64 ((((List.length x.1) : Nat) : Int) - (2 : Int))) , (x.1 , (y0.1 , ()))))))
 else none)
 else none))
def S.s_l01NatText (x : ((List Int) × Unit)) : (Option (ByteArray × Unit)) := if canon B10 x.1 = true ∧ x.1.length ≤ 100000 then some (⟨(Go.Lib.decDigits (dval B10 x.1)).toArray⟩, ()) else none
theorem S.s_l01NatText_ok (x : ((List Int) × Unit)) (r : _) (h : S.s_l01NatText x = some r) : ∃ k, P.s_l01NatText k x = some r := by
  obtain ⟨xs, u⟩ := x
  unfold S.s_l01NatText at h
  dsimp only at h
  split at h
  case isFalse => cases h
  rename_i hc
  obtain ⟨ca, la⟩ := hc
  cases h
  refine ⟨xs.length + 1, ?_⟩
  unfold P.s_l01NatText
  dsimp only
  by_cases he : xs = []
  · subst he
    rw [if_pos (by rfl), show dval B10 [] = 0 from rfl, dec_small (by decide)]
    rfl
  · have hpos : 0 < xs.length := List.length_pos_iff.2 he
    obtain ⟨m, hm⟩ : ∃ m, xs.length = m + 1 := ⟨xs.length - 1, by omega⟩
    have dx := canon_dig ca
    have h0 : dval B10 xs ≠ 0 := by
      intro q
      have := canon_eq ca
      rw [q, nd_zero B10_le] at this
      exact he this.symm
    have hdec : ∀ z : Int, 0 ≤ z → z ≤ 2000000000 → S.s_l01Dec (z, ()) = some (⟨(Go.Lib.decDigits z.toNat).toArray⟩, ()) := by
      intro z z0 z1
      unfold S.s_l01Dec
      dsimp only
      rw [if_pos ⟨by omega, by omega⟩]
      unfold Go.Lib.itoa
      rw [if_neg (by omega)]
    -- the part of the number from a place on is not 0
    have hnz : ∀ i, i ≤ m → dval B10 (xs.drop i) ≠ 0 := by
      intro i hi q
      have h1 := dval_append (B := B10) (xs.take i) (xs.drop i)
      rw [List.take_append_drop, q, Nat.mul_zero, Nat.add_zero] at h1
      have h2 := dval_lt (dig_take dx i)
      have h3 : (xs.take i).length = i := by simp; omega
      rw [h3] at h2
      have h4 := nd_low B10_le h0
      rw [canon_eq ca, hm, Nat.add_sub_cancel] at h4
      have h5 : B10 ^ i ≤ B10 ^ m := Nat.pow_le_pow_right (by decide) hi
      omega
    have hlenD : ∀ i, (Go.Lib.decDigits (dval B10 (xs.drop i))).length ≤ 9 * xs.length := by
      intro i
      have h1 := dval_lt (dig_drop dx i)
      have h2 : B10 ^ (xs.drop i).length ≤ B10 ^ xs.length := Nat.pow_le_pow_right (by decide) (by simp)
      rw [show B10 = 10 ^ 9 by decide, ← Nat.pow_mul, ← Nat.pow_mul] at h2
      rw [show B10 ^ (xs.drop i).length = 10 ^ (9 * (xs.drop i).length) by rw [show B10 = 10 ^ 9 by decide, ← Nat.pow_mul]] at h1
      exact dec_len (by omega) (by omega)
    have c1 : (0 : Int) ≤ (m : Int) := by omega
    have c2 : (m : Int) < ((m + 1 : Nat) : Int) := by omega
    rw [if_neg (by simp; exact he), hm, wr (x := ((m + 1 : Nat) : Int) - 1) (by omega) (by omega), wr (x := ((m + 1 : Nat) : Int) - 2) (by omega) (by omega), show ((m + 1 : Nat) : Int) - 1 = (m : Int) by omega, if_pos (decide_eq_true c1), if_pos (decide_eq_true c2), Int.toNat_natCast]
    have gx := dig_getD (B := B10) (by decide) dx m
    have gx1 : xs.getD m 0 < 1000000000 := gx.2
    rw [hdec _ gx.1 (by omega), Option.bind_some]
    have hlast : (xs.getD m 0).toNat = dval B10 (xs.drop m) := by
      rw [dval_drop (by omega), List.drop_of_length_le (by omega)]
      simp [dval]
    rw [hlast]
    have key := loop_up0 (k := m + 1 + 1) (b := P.s_l01NatText_b1) (n := m) (st := fun i => ((m : Int) - 1 - (i : Int), xs, (⟨(Go.Lib.decDigits (dval B10 (xs.drop (m - i)))).toArray⟩ : ByteArray), ())) (F := fun i => some (⟨(Go.Lib.decDigits (dval B10 xs)).toArray⟩, ())) (fun i g hi hg => by
      unfold P.s_l01NatText_b1
      dsimp only at hg ⊢
      obtain ⟨j, hj⟩ : ∃ j, m - i = j + 1 := ⟨m - i - 1, by omega⟩
      rw [show m - (i + 1) = j by omega, show (m : Int) - 1 - ((i + 1 : Nat) : Int) = (j : Int) - 1 by omega] at hg
      rw [hj, show (m : Int) - 1 - (i : Int) = (j : Int) by omega]
      have d1 : (j : Int) ≥ 0 := by omega
      have d2 : (0 : Int) ≤ (j : Int) := by omega
      have d3 : (j : Int) < (xs.length : Int) := by omega
      have gx := dig_getD (B := B10) (by decide) dx j
      have gx1 : xs.getD j 0 < 1000000000 := gx.2
      have gx0 := gx.1
      rw [if_pos (decide_eq_true d1), if_pos (decide_eq_true d2), if_pos (decide_eq_true d3), Int.toNat_natCast, wr (x := xs.getD j 0 + 1000000000) (by omega) (by omega), hdec _ (by omega) (by omega), Option.bind_some]
      dsimp only
      obtain ⟨z, hz⟩ : ∃ z : Nat, xs.getD j 0 = (z : Int) := ⟨(xs.getD j 0).toNat, by omega⟩
      have hzl : z < 10 ^ 9 := by rw [show (10 : Nat) ^ 9 = 1000000000 by decide]; omega
      have e1 := nine_all z (xs.getD j 0) hz hzl
      rw [e1]
      have hs : (⟨(49 :: decPad 9 z).toArray⟩ : ByteArray).size = 10 := by rw [ba_sz, List.length_cons, decPad_len]
      have hx : ByteArray.extract ⟨(49 :: decPad 9 z).toArray⟩ 1 10 = ⟨(decPad 9 z).toArray⟩ := by
        apply ByteArray.ext
        rw [ByteArray.data_extract]
        have hl : (decPad 9 z).length = 9 := decPad_len _ _
        simp [List.extract_toArray, List.take_of_length_le, hl]
      rw [hs]
      have f1 : (0 : Int) ≤ ((10 : Nat) : Int) := by decide
      have f2 : (1 : Int) ≤ ((10 : Nat) : Int) := by decide
      rw [if_pos (decide_eq_true f1), if_pos (decide_eq_true (Int.le_refl _)), if_pos (decide_eq_true f2), show (((10 : Nat) : Int)).toNat = 10 from rfl, hx]
      have hl1 := hlenD (j + 1)
      have f3 : (⟨(Go.Lib.decDigits (dval B10 (xs.drop (j + 1)))).toArray⟩ : ByteArray).size + (⟨(decPad 9 z).toArray⟩ : ByteArray).size ≤ 9223372036854775807 := by
        rw [ba_sz, ba_sz, decPad_len]
        omega
      rw [if_pos (decide_eq_true f3), ba_app, wr (x := (j : Int) - 1) (by omega) (by omega)]
      have e2 : Go.Lib.decDigits (dval B10 (xs.drop (j + 1))) ++ decPad 9 z = Go.Lib.decDigits (dval B10 (xs.drop j)) := by
        rw [dval_drop (xs := xs) (i := j) (by omega), hz, Int.toNat_natCast]
        generalize hD : dval B10 (xs.drop (j + 1)) = D
        have hD0 : 0 < D := by rw [← hD]; exact Nat.pos_of_ne_zero (hnz (j + 1) (by omega))
        have e3 : z + B10 * D = D * 10 ^ 9 + z := by rw [Nat.add_comm, Nat.mul_comm]
        rw [e3, dec_split 9 D z hD0 hzl]
      rw [e2]
      exact hg) (fun g => by
      unfold P.s_l01NatText_b1
      dsimp only
      rw [if_neg (by simp; omega), Nat.sub_self, List.drop_zero]) (by omega)
    rw [Nat.sub_zero, show (m : Int) - 1 - ((0 : Nat) : Int) = ((m + 1 : Nat) : Int) - 2 by omega] at key
    exact key
def P.s_l01Fits (k : Nat) (x : ((Bool × ((List Int) × (List Int))) × Unit)) : (Option (Bool × Unit)) :=
 (Option.bind (S.s_l01NatText (x.1.2.1 , ())) (fun (y0 : (ByteArray × Unit)) => (if ((decide ((((ByteArray.size y0.1) : Nat) : Int) ≤ (200 : Int))) = true) then (Option.bind (S.s_l01NatText (x.1.2.2 , ())) (fun (y1 : (ByteArray × Unit)) => (some ((decide ((((ByteArray.size y1.1) : Nat) : Int) ≤ (200 : Int))) , ()))))
 else (some (false , ())))))
def S.s_l01Fits (x : ((Bool × ((List Int) × (List Int))) × Unit)) : (Option (Bool × Unit)) := P.s_l01Fits 0 x
theorem S.s_l01Fits_ok (x : ((Bool × ((List Int) × (List Int))) × Unit)) (r : _) (h : S.s_l01Fits x = some r) : ∃ k, P.s_l01Fits k x = some r := ⟨0, h⟩
def P.s_l01Show (k : Nat) (x : ((Bool × ((List Int) × (List Int))) × Unit)) : (Option (ByteArray × Unit)) :=
 (Option.bind (S.s_l01NatText (x.1.2.1 , ())) (fun (y0 : (ByteArray × Unit)) => (if (x.1.1 = true) then (if ((decide (((1 : Nat) + (ByteArray.size y0.1)) ≤ (9223372036854775807 : Nat))) = true) then (Option.bind (S.s_l01Cmp (x.1.2.2 , (((1 : Int) :: ([] : List Int)) , ()))) (fun (y1 : (Int × Unit)) => (if ((y1.1 != (0 : Int)) = true) then (Option.bind (S.s_l01NatText (x.1.2.2 , ())) (fun (y2 : (ByteArray × Unit)) => (if ((decide (((1 : Nat) + (ByteArray.size y2.1)) ≤ (9223372036854775807 : Nat))) = true) then (if ((decide (((ByteArray.size ((bs [45]) ++ y0.1)) + (ByteArray.size ((bs [47]) ++ y2.1))) ≤ (9223372036854775807 : Nat))) = true) then (some ((((bs [45]) ++ y0.1) ++ ((bs [47]) ++ y2.1)) , ()))
 else none)
 else none)))
 else (some (((bs [45]) ++ y0.1) , ())))))
 else none)
 else (Option.bind (S.s_l01Cmp (x.1.2.2 , (((1 : Int) :: ([] : List Int)) , ()))) (fun (y3 : (Int × Unit)) => (if ((y3.1 != (0 : Int)) = true) then (Option.bind (S.s_l01NatText (x.1.2.2 , ())) (fun (y4 : (ByteArray × Unit)) => (if ((decide (((1 : Nat) + (ByteArray.size y4.1)) ≤ (9223372036854775807 : Nat))) = true) then (if ((decide (((ByteArray.size y0.1) + (ByteArray.size ((bs [47]) ++ y4.1))) ≤ (9223372036854775807 : Nat))) = true) then (some ((y0.1 ++ ((bs [47]) ++ y4.1)) , ()))
 else none)
 else none)))
 else (some (y0.1 , ()))))))))
def S.s_l01Show (x : ((Bool × ((List Int) × (List Int))) × Unit)) : (Option (ByteArray × Unit)) := P.s_l01Show 0 x
theorem S.s_l01Show_ok (x : ((Bool × ((List Int) × (List Int))) × Unit)) (r : _) (h : S.s_l01Show x = some r) : ∃ k, P.s_l01Show k x = some r := ⟨0, h⟩
def P.s_l01Give (k : Nat) (x : ((Bool × ((List Int) × (List Int))) × Unit)) : (Option ((ByteArray × Bool) × Unit)) :=
 (Option.bind (S.s_l01Fits ((x.1.1 , (x.1.2.1 , x.1.2.2)) , ())) (fun (y0 : (Bool × Unit)) => (if ((!y0.1) = true) then (some (((bs []) , false) , ()))
 else (Option.bind (S.s_l01Show ((x.1.1 , (x.1.2.1 , x.1.2.2)) , ())) (fun (y1 : (ByteArray × Unit)) => (some ((y1.1 , true) , ())))))))
def S.s_l01Give (x : ((Bool × ((List Int) × (List Int))) × Unit)) : (Option ((ByteArray × Bool) × Unit)) := if rok B10 100000 x.1 = true then some (giveN (rv B10 x.1), ()) else none
theorem S.s_l01Give_ok (x : ((Bool × ((List Int) × (List Int))) × Unit)) (r : _) (h : S.s_l01Give x = some r) : ∃ k, P.s_l01Give k x = some r := by
  obtain ⟨⟨neg, as, bs'⟩, u⟩ := x
  unfold S.s_l01Give at h
  dsimp only at h
  split at h
  case isFalse => cases h
  rename_i hc
  cases h
  rw [rok_iff] at hc
  obtain ⟨ca, cb, la, lb⟩ := hc
  dsimp only at ca cb la lb
  refine ⟨0, ?_⟩
  unfold P.s_l01Give S.s_l01Fits S.s_l01Show P.s_l01Fits P.s_l01Show
  dsimp only
  have e1 : ∀ xs, canon B10 xs = true → xs.length ≤ 100000 → S.s_l01NatText (xs, ()) = some (⟨(Go.Lib.decDigits (dval B10 xs)).toArray⟩, ()) := by
    intro xs cx lx
    unfold S.s_l01NatText
    exact if_pos ⟨cx, lx⟩
  have e3 : S.s_l01Cmp (bs', ([1], ())) = some (cmpN (dval B10 bs') 1, ()) := by
    unfold S.s_l01Cmp
    dsimp only
    rw [if_pos ⟨cb, canon_one B10_le, by omega⟩, dval_one]
  rw [e1 as ca la, Option.bind_some, e1 bs' cb lb, Option.bind_some, e3, Option.bind_some]
  dsimp only
  have l1 := canon_dec (show B10 ≤ 10 ^ 10 by decide) ca
  have l2 := canon_dec (show B10 ≤ 10 ^ 10 by decide) cb
  unfold giveN rv ratTx fitN
  dsimp only
  generalize Go.Lib.decDigits (dval B10 as) = t1 at *
  generalize Go.Lib.decDigits (dval B10 bs') = t2 at *
  rw [show bs [45] = ⟨([45] : List UInt8).toArray⟩ from rfl, show bs [47] = ⟨([47] : List UInt8).toArray⟩ from rfl]
  simp only [Option.bind_some]
  rw [ba_app, ba_app, ba_app, ba_app, ba_sz, ba_sz, ba_sz, ba_sz]
  have c1 : (1 + t1.length ≤ 9223372036854775807) := by omega
  have c2 : (1 + t2.length ≤ 9223372036854775807) := by omega
  have c3 : ([45] ++ t1).length + ([47] ++ t2).length ≤ 9223372036854775807 := by simp; omega
  have c4 : t1.length + ([47] ++ t2).length ≤ 9223372036854775807 := by simp; omega
  simp only [c1, c2, c3, c4, decide_true, if_true]
  have d1 : ∀ t : List UInt8, decide (((t.length : Nat) : Int) ≤ 200) = decide (t.length ≤ 200) := by
    intro t
    rw [decide_eq_decide]
    omega
  rw [d1, d1]
  have d2 : ((cmpN (dval B10 bs') 1 != 0) = true) ↔ ¬ dval B10 bs' = 1 := by
    rw [← cmpN_zero (b := 1)]
    simp
  by_cases f1 : t1.length ≤ 200
  · by_cases f2 : t2.length ≤ 200
    · by_cases hq : dval B10 bs' = 1
      · have n2 : ¬ ((cmpN 1 1 != 0) = true) := by decide
        cases neg <;> simp only [f1, f2, n2, hq, decide_true, if_true, if_false, Bool.false_eq_true, List.append_nil, List.nil_append, Option.bind_some, Bool.not_true, Bool.and_true]
      · have n2 : ((cmpN (dval B10 bs') 1 != 0) = true) := d2.2 hq
        cases neg <;> simp only [f1, f2, n2, hq, decide_true, if_true, if_false, Bool.false_eq_true, List.nil_append, Option.bind_some, Bool.not_true, Bool.and_true] <;> simp
    · simp [f1, f2]
  · simp [f1]
theorem rs_give {x : Q3} {m : Nat} (bx : below m x) (hm : m ≤ 800000) : S.s_l01Give (rp B10 x, ()) = some (giveN x, ()) := by
  unfold S.s_l01Give
  dsimp only
  rw [if_pos (below_rok9 (by decide) bx (by omega)), rv_rp B10_le]
def P.s_l02Give (k : Nat) (x : ((Bool × ((List Int) × (List Int))) × Unit)) : (Option ((ByteArray × Bool) × Unit)) :=
 (Option.bind (S.s_l01Give ((x.1.1 , (x.1.2.1 , x.1.2.2)) , ())) (fun (y0 : ((ByteArray × Bool) × Unit)) => (if ((!y0.1.2) = true) then (some (((bs []) , false) , ()))
 else (some ((y0.1.1 , true) , ())))))
def S.s_l02Give (x : ((Bool × ((List Int) × (List Int))) × Unit)) : (Option ((ByteArray × Bool) × Unit)) := if rok B10 100000 x.1 = true then some (giveN (rv B10 x.1), ()) else none
theorem S.s_l02Give_ok (x : ((Bool × ((List Int) × (List Int))) × Unit)) (r : _) (h : S.s_l02Give x = some r) : ∃ k, P.s_l02Give k x = some r := by
  obtain ⟨y, u⟩ := x
  unfold S.s_l02Give at h
  dsimp only at h
  split at h
  case isFalse => cases h
  rename_i hc
  cases h
  refine ⟨0, ?_⟩
  unfold P.s_l02Give
  dsimp only
  have e : S.s_l01Give (y, ()) = some (giveN (rv B10 y), ()) := by
    unfold S.s_l01Give
    exact if_pos hc
  show Option.bind (S.s_l01Give (y, ())) _ = _
  rw [e, Option.bind_some]
  unfold giveN
  split
  · rfl
  · rfl
theorem rs_give2 {x : Q3} {m : Nat} (bx : below m x) (hm : m ≤ 800000) : S.s_l02Give (rp B10 x, ()) = some (giveN x, ()) := by
  unfold S.s_l02Give
  dsimp only
  rw [if_pos (below_rok9 (by decide) bx (by omega)), rv_rp B10_le]
def P.s_l01One (k : Nat) (x : Unit) : (Option ((Bool × ((List Int) × (List Int))) × Unit)) :=
 (Option.bind (S.s_l01Int ((1 : Int) , ())) (fun (y0 : ((Bool × ((List Int) × (List Int))) × Unit)) => (some ((y0.1.1 , (y0.1.2.1 , y0.1.2.2)) , ()))))
def S.s_l01One (x : Unit) : (Option ((Bool × ((List Int) × (List Int))) × Unit)) := P.s_l01One 0 x
theorem S.s_l01One_ok (x : Unit) (r : _) (h : S.s_l01One x = some r) : ∃ k, P.s_l01One k x = some r := ⟨0, h⟩
def P.s_l01Times (k : Nat) (x : ((Bool × ((List Int) × (List Int))) × ((Bool × ((List Int) × (List Int))) × Unit))) : (Option ((Bool × ((List Int) × (List Int))) × Unit)) :=
 (Option.bind (S.s_l01NatMul (x.1.2.1 , (x.2.1.2.1 , ()))) (fun (y0 : ((List Int) × Unit)) => (Option.bind (S.s_l01NatMul (x.1.2.2 , (x.2.1.2.2 , ()))) (fun (y1 : ((List Int) × Unit)) => (Option.bind (S.s_l01Make ((!(x.1.1 == x.2.1.1)) , (y0.1 , (y1.1 , ())))) (fun (y2 : ((Bool × ((List Int) × (List Int))) × Unit)) => (some ((y2.1.1 , (y2.1.2.1 , y2.1.2.2)) , ()))))))))
def S.s_l01Times (x : ((Bool × ((List Int) × (List Int))) × ((Bool × ((List Int) × (List Int))) × Unit))) : (Option ((Bool × ((List Int) × (List Int))) × Unit)) := if lowb B10 100000 x.1 = true ∧ lowb B10 100000 x.2.1 = true  then some (rp B10 (mulQ (rv B10 x.1) (rv B10 x.2.1)), ()) else none
theorem S.s_l01Times_ok (x : ((Bool × ((List Int) × (List Int))) × ((Bool × ((List Int) × (List Int))) × Unit))) (r : _) (h : S.s_l01Times x = some r) : ∃ k, P.s_l01Times k x = some r := by
  obtain ⟨x, y, u⟩ := x
  unfold S.s_l01Times at h
  dsimp only at h
  split at h
  case isFalse => cases h
  rename_i hc
  obtain ⟨hx, hy⟩ := hc
  cases h
  rw [lowb_iff] at hx hy
  obtain ⟨hx, lx⟩ := hx
  obtain ⟨hy, ly⟩ := hy
  obtain ⟨n1, p1, q1, rfl, x1, x2⟩ := rok_nd hx
  obtain ⟨n2, p2, q2, rfl, y1, y2⟩ := rok_nd hy
  rw [rv_nd B10_le] at lx ly ⊢
  rw [rv_nd B10_le]
  have hq1 : 0 < q1 := lx.1
  have hq2 : 0 < q2 := ly.1
  have m1 := nd_mul_len B10_le p1 p2
  have m2 := nd_mul_len B10_le q1 q2
  have mul : ∀ p q : Nat, (nd B10 p).length ≤ 1000000 → (nd B10 q).length ≤ 1000000 → S.s_l01NatMul (nd B10 p, (nd B10 q, ())) = some (nd B10 (p * q), ()) := by
    intro p q hp hq
    unfold S.s_l01NatMul
    dsimp only
    rw [if_pos ⟨dig_nd B10_le _, dig_nd B10_le _, by omega, by omega⟩, dval_nd B10_le, dval_nd B10_le]
  refine ⟨0, ?_⟩
  unfold P.s_l01Times mulQ
  dsimp only
  rw [mul p1 p2 (by omega) (by omega), Option.bind_some, mul q1 q2 (by omega) (by omega), Option.bind_some]
  unfold S.s_l01Make
  dsimp only
  rw [if_pos ⟨canon_nd B10_le _, canon_nd B10_le _, nd_ne B10_le (Nat.ne_of_gt (Nat.mul_pos hq1 hq2)), by omega, by omega⟩, Option.bind_some, dval_nd B10_le, dval_nd B10_le]
  rfl
theorem rs_mul {x y : Q3} {m n : Nat} (hx : low x) (bx : below m x) (hy : low y) (bY : below n y) (hm : m ≤ 800000) (hn : n ≤ 800000) : S.s_l01Times (rp B10 x, (rp B10 y, ())) = some (rp B10 (mulQ x y), ()) := by
  unfold S.s_l01Times
  dsimp only
  rw [if_pos ⟨lowb_rp9 (by decide) hx bx (by omega), lowb_rp9 (by decide) hy bY (by omega)⟩, rv_rp B10_le, rv_rp B10_le]
def P.s_l01Over (k : Nat) (x : ((Bool × ((List Int) × (List Int))) × ((Bool × ((List Int) × (List Int))) × Unit))) : (Option ((Bool × ((List Int) × (List Int))) × Unit)) :=
 (Option.bind (S.s_l01NatMul (x.1.2.1 , (x.2.1.2.2 , ()))) (fun (y0 : ((List Int) × Unit)) => (Option.bind (S.s_l01NatMul (x.1.2.2 , (x.2.1.2.1 , ()))) (fun (y1 : ((List Int) × Unit)) => (Option.bind (S.s_l01Make ((!(x.1.1 == x.2.1.1)) , (y0.1 , (y1.1 , ())))) (fun (y2 : ((Bool × ((List Int) × (List Int))) × Unit)) => (some ((y2.1.1 , (y2.1.2.1 , y2.1.2.2)) , ()))))))))
def S.s_l01Over (x : ((Bool × ((List Int) × (List Int))) × ((Bool × ((List Int) × (List Int))) × Unit))) : (Option ((Bool × ((List Int) × (List Int))) × Unit)) := if lowb B10 100000 x.1 = true ∧ lowb B10 100000 x.2.1 = true ∧ (rv B10 x.2.1).2.1 ≠ 0 then some (rp B10 (overQ (rv B10 x.1) (rv B10 x.2.1)), ()) else none
theorem S.s_l01Over_ok (x : ((Bool × ((List Int) × (List Int))) × ((Bool × ((List Int) × (List Int))) × Unit))) (r : _) (h : S.s_l01Over x = some r) : ∃ k, P.s_l01Over k x = some r := by
  obtain ⟨x, y, u⟩ := x
  unfold S.s_l01Over at h
  dsimp only at h
  split at h
  case isFalse => cases h
  rename_i hc
  obtain ⟨hx, hy, h0⟩ := hc
  cases h
  rw [lowb_iff] at hx hy
  obtain ⟨hx, lx⟩ := hx
  obtain ⟨hy, ly⟩ := hy
  obtain ⟨n1, p1, q1, rfl, x1, x2⟩ := rok_nd hx
  obtain ⟨n2, p2, q2, rfl, y1, y2⟩ := rok_nd hy
  rw [rv_nd B10_le] at lx ly h0 ⊢
  rw [rv_nd B10_le]
  have hq1 : 0 < q1 := lx.1
  have hq2 : 0 < p2 := Nat.pos_of_ne_zero h0
  have m1 := nd_mul_len B10_le p1 q2
  have m2 := nd_mul_len B10_le q1 p2
  have mul : ∀ p q : Nat, (nd B10 p).length ≤ 1000000 → (nd B10 q).length ≤ 1000000 → S.s_l01NatMul (nd B10 p, (nd B10 q, ())) = some (nd B10 (p * q), ()) := by
    intro p q hp hq
    unfold S.s_l01NatMul
    dsimp only
    rw [if_pos ⟨dig_nd B10_le _, dig_nd B10_le _, by omega, by omega⟩, dval_nd B10_le, dval_nd B10_le]
  refine ⟨0, ?_⟩
  unfold P.s_l01Over overQ
  dsimp only
  rw [mul p1 q2 (by omega) (by omega), Option.bind_some, mul q1 p2 (by omega) (by omega), Option.bind_some]
  unfold S.s_l01Make
  dsimp only
  rw [if_pos ⟨canon_nd B10_le _, canon_nd B10_le _, nd_ne B10_le (Nat.ne_of_gt (Nat.mul_pos hq1 hq2)), by omega, by omega⟩, Option.bind_some, dval_nd B10_le, dval_nd B10_le]
  rfl
theorem rs_over {x y : Q3} {m n : Nat} (hx : low x) (bx : below m x) (hy : low y) (bY : below n y) (h0 : y.2.1 ≠ 0) (hm : m ≤ 800000) (hn : n ≤ 800000) : S.s_l01Over (rp B10 x, (rp B10 y, ())) = some (rp B10 (overQ x y), ()) := by
  unfold S.s_l01Over
  dsimp only
  rw [if_pos ⟨lowb_rp9 (by decide) hx bx (by omega), lowb_rp9 (by decide) hy bY (by omega), by rw [rv_rp B10_le]; exact h0⟩, rv_rp B10_le, rv_rp B10_le]
abbrev P.s_l02UpTimes_b0  (x1 : (Int × (((List (Bool × ((List Int) × (List Int)))) × (List (Bool × ((List Int) × (List Int))))) × ((List (Bool × ((List Int) × (List Int)))) × Unit)))) (g2 : (Int × (((List (Bool × ((List Int) × (List Int)))) × (List (Bool × ((List Int) × (List Int))))) × ((List (Bool × ((List Int) × (List Int)))) × Unit))) → Option ((List (Bool × ((List Int) × (List Int)))) × Unit)) : Option ((List (Bool × ((List Int) × (List Int)))) × Unit) :=
 (if ((decide (x1.1 < (((List.length x1.2.1.1) : Nat) : Int))) = true) then (Option.bind (S.s_l01One ()) (fun (y3 : ((Bool × ((List Int) × (List Int))) × Unit)) => (if ((decide (x1.1 > (0 : Int))) = true) then (if ((decide ((0 : Int) ≤ (Go.IntKind.wrap Go.IntKind.i64 (x1.1 - (1 : Int))))) = true) then (if ((decide ((Go.IntKind.wrap Go.IntKind.i64 (x1.1 - (1 : Int))) < (((List.length x1.2.1.2) : Nat) : Int))) = true) then (if ((decide ((0 : Int) ≤ (Go.IntKind.wrap Go.IntKind.i64 (x1.1 - (1 : Int))))) = true) then (if ((decide ((Go.IntKind.wrap Go.IntKind.i64 (x1.1 - (1 : Int))) < (((List.length x1.2.2.1) : Nat) : Int))) = true) then (Option.bind (S.s_l01Times (((List.getD x1.2.1.2 (Int.toNat (Go.IntKind.wrap Go.IntKind.i64 (x1.1 - (1 : Int)))) (false , (([] : List Int) , ([] : List Int)))).1 , ((List.getD x1.2.1.2 (Int.toNat (Go.IntKind.wrap Go.IntKind.i64 (x1.1 - (1 : Int)))) (false , (([] : List Int) , ([] : List Int)))).2.1 , (List.getD x1.2.1.2 (Int.toNat (Go.IntKind.wrap Go.IntKind.i64 (x1.1 - (1 : Int)))) (false , (([] : List Int) , ([] : List Int)))).2.2)) , (((List.getD x1.2.2.1 ((0 : Nat) + (Int.toNat (Go.IntKind.wrap Go.IntKind.i64 (x1.1 - (1 : Int))))) (false , (([] : List Int) , ([] : List Int)))).1 , ((List.getD x1.2.2.1 ((0 : Nat) + (Int.toNat (Go.IntKind.wrap Go.IntKind.i64 (x1.1 - (1 : Int))))) (false , (([] : List Int) , ([] : List Int)))).2.1 , (List.getD x1.2.2.1 ((0 : Nat) + (Int.toNat (Go.IntKind.wrap Go.IntKind.i64 (x1.1 - (1 : Int))))) (false , (([] : List Int) , ([] : List Int)))).2.2)) , ()))) (fun (y4 : ((Bool × ((List Int) × (List Int))) × Unit)) => (Option.bind (S.s_l01Sum ((y3.1.1 , (y3.1.2.1 , y3.1.2.2)) , ((y4.1.1 , (y4.1.2.1 , y4.1.2.2)) , ()))) (fun (y5 : ((Bool × ((List Int) × (List Int))) × Unit)) => (if ((decide ((0 : Int) ≤ x1.1)) = true) then (if ((decide (x1.1 < (((List.length x1.2.1.1) : Nat) : Int))) = true) then (Option.bind (S.s_l01Over ((y5.1.1 , (y5.1.2.1 , y5.1.2.2)) , (((List.getD x1.2.1.1 (Int.toNat x1.1) (false , (([] : List Int) , ([] : List Int)))).1 , ((List.getD x1.2.1.1 (Int.toNat x1.1) (false , (([] : List Int) , ([] : List Int)))).2.1 , (List.getD x1.2.1.1 (Int.toNat x1.1) (false , (([] : List Int) , ([] : List Int)))).2.2)) , ()))) (fun (y6 : ((Bool × ((List Int) × (List Int))) × Unit)) => (if ((decide ((((List.length x1.2.2.1) + (List.length ((y6.1.1 , (y6.1.2.1 , y6.1.2.2)) :: ([] : List (Bool × ((List Int) × (List Int))))))) * (56 : Nat)) ≤ (140737488355328 : Nat))) = true) then (g2 ((Go.IntKind.wrap Go.IntKind.i64 (x1.1 + (1 : Int))) , (x1.2.1 , ((x1.2.2.1 ++ ((y6.1.1 , (y6.1.2.1 , y6.1.2.2)) :: ([] : List (Bool × ((List Int) × (List Int)))))) , ()))))
 else none)))
 else none)
 else none)))))
 else none)
 else none)
 else none)
 else none)
 else (if ((decide ((0 : Int) ≤ x1.1)) = true) then (if ((decide (x1.1 < (((List.length x1.2.1.1) : Nat) : Int))) = true) then (Option.bind (S.s_l01Over ((y3.1.1 , (y3.1.2.1 , y3.1.2.2)) , (((List.getD x1.2.1.1 (Int.toNat x1.1) (false , (([] : List Int) , ([] : List Int)))).1 , ((List.getD x1.2.1.1 (Int.toNat x1.1) (false , (([] : List Int) , ([] : List Int)))).2.1 , (List.getD x1.2.1.1 (Int.toNat x1.1) (false , (([] : List Int) , ([] : List Int)))).2.2)) , ()))) (fun (y7 : ((Bool × ((List Int) × (List Int))) × Unit)) => (if ((decide ((((List.length x1.2.2.1) + (List.length ((y7.1.1 , (y7.1.2.1 , y7.1.2.2)) :: ([] : List (Bool × ((List Int) × (List Int))))))) * (56 : Nat)) ≤ (140737488355328 : Nat))) = true) then (g2 ((Go.IntKind.wrap Go.IntKind.i64 (x1.1 + (1 : Int))) , (x1.2.1 , ((x1.2.2.1 ++ ((y7.1.1 , (y7.1.2.1 , y7.1.2.2)) :: ([] : List (Bool × ((List Int) × (List Int)))))) , ()))))
 else none)))
 else none)
 else none))))
 else (some (x1.2.2.1 , ())))
def P.s_l02UpTimes (k : Nat) (x : (((List (Bool × ((List Int) × (List Int)))) × (List (Bool × ((List Int) × (List Int))))) × Unit)) : (Option ((List (Bool × ((List Int) × (List Int)))) × Unit)) :=
 (loopP (X := (Int × (((List (Bool × ((List Int) × (List Int)))) × (List (Bool × ((List Int) × (List Int))))) × ((List (Bool × ((List Int) × (List Int)))) × Unit)))) (R := ((List (Bool × ((List Int) × (List Int)))) × Unit)) (P.s_l02UpTimes_b0 ) k ((0 : Int) , (x.1 , (([] : List (Bool × ((List Int) × (List Int)))) , ()))))
open Classical in
def S.s_l02UpTimes (x : (((List (Bool × ((List Int) × (List Int)))) × (List (Bool × ((List Int) × (List Int))))) × Unit)) : (Option ((List (Bool × ((List Int) × (List Int)))) × Unit)) := if isLine B10 x.1 then some ((upL (x.1.1.map (rv B10)) (x.1.2.map (rv B10))).map (rp B10), ()) else none
theorem S.s_l02UpTimes_ok (x : (((List (Bool × ((List Int) × (List Int)))) × (List (Bool × ((List Int) × (List Int))))) × Unit)) (r : _) (h : S.s_l02UpTimes x = some r) : ∃ k, P.s_l02UpTimes k x = some r := by
  obtain ⟨y, u⟩ := x
  unfold S.s_l02UpTimes at h
  dsimp only at h
  split at h
  case isFalse => cases h
  rename_i hc
  cases h
  obtain ⟨us, ds, rfl, hu, hd, hl, h20⟩ := hc
  obtain ⟨N, hN⟩ : ∃ N, us.length = N := ⟨_, rfl⟩
  refine ⟨N + 1, ?_⟩
  have h1 : S.s_l01One () = some (rp B10 oneQ, ()) := by rfl
  unfold P.s_l02UpTimes upL
  dsimp only
  rw [map_rv B10_le, map_rv B10_le, hN]
  have key := loop_up0 (k := N + 1) (b := P.s_l02UpTimes_b0) (n := N) (st := fun i => ((i : Int), (us.map (rp B10), ds.map (rp B10)), ((List.range i).map (upF us ds)).map (rp B10), ())) (F := fun i => some (((List.range N).map (upF us ds)).map (rp B10), ())) (fun i g hi hg' => by
    have e1 : (i : Int) < (N : Int) := by omega
    have e2 : (0 : Int) ≤ (i : Int) := by omega
    have e3 : (i : Int) < ((us.map (rp B10)).length : Int) := by rw [List.length_map]; omega
    have e4 : ((((List.range i).map (upF us ds)).map (rp B10)).length + 1) * 56 ≤ 140737488355328 := by
      simp only [List.length_map, List.length_range]
      omega
    have gu := rates_get hu (show i < us.length by omega)
    unfold P.s_l02UpTimes_b0
    dsimp only at hg' ⊢
    rw [if_pos (decide_eq_true e3), h1, Option.bind_some]
    dsimp only
    simp only [List.length_cons, List.length_nil, Nat.zero_add]
    cases i with
    | zero =>
      rw [if_neg (by simp), if_pos (decide_eq_true e2), if_pos (decide_eq_true e3), Int.toNat_natCast, getD_rp B10 (show 0 < us.length by omega)]
      show Option.bind (S.s_l01Over (rp B10 oneQ, (rp B10 (us.getD 0 zeroQ), ()))) _ = _
      rw [rs_over oneQ_low (oneQ_below (n := 1) (by decide)) gu.1 gu.2.1 gu.2.2.1 (by decide) (by decide), Option.bind_some]
      dsimp only
      rw [if_pos (decide_eq_true e4), wr (by omega) (by omega), ← hg', range_snoc, List.map_append]
      rfl
    | succ j =>
      have ej : ((j + 1 : Nat) : Int) > 0 := by omega
      have f1 : (0 : Int) ≤ (j : Int) := by omega
      have f2 : (j : Int) < ((ds.map (rp B10)).length : Int) := by rw [List.length_map]; omega
      have f3 : (j : Int) < ((((List.range (j + 1)).map (upF us ds)).map (rp B10)).length : Int) := by
        simp only [List.length_map, List.length_range]
        omega
      have gd := rates_get hd (show j < ds.length by omega)
      have gt := upF_ok hu hd j (by omega) (by omega)
      have l1 := mulQ_low _ _ gd.1 gt.1
      have b1 := mulQ_below gd.2.1 gt.2
      have l2 := addQ_low _ _ oneQ_low l1
      have b2 := addQ_below (oneQ_below (n := 1) (by decide)) b1
      rw [if_pos (decide_eq_true ej), wr (x := ((j + 1 : Nat) : Int) - 1) (by omega) (by omega), show ((j + 1 : Nat) : Int) - 1 = (j : Int) by omega, if_pos (decide_eq_true f1), if_pos (decide_eq_true f2), if_pos (decide_eq_true f1), if_pos (decide_eq_true f3), Int.toNat_natCast, getD_rp B10 (show j < ds.length by omega), getD_rpR B10 (show j < j + 1 by omega)]
      show Option.bind (S.s_l01Times (rp B10 (ds.getD j zeroQ), (rp B10 (upF us ds j), ()))) _ = _
      rw [rs_mul gd.1 gd.2.1 gt.1 gt.2 (by decide) (by omega), Option.bind_some]
      show Option.bind (S.s_l01Sum (rp B10 oneQ, (rp B10 (mulQ (ds.getD j zeroQ) (upF us ds j)), ()))) _ = _
      rw [rs_add oneQ_low (oneQ_below (n := 1) (by decide)) l1 b1 (by decide) (by omega), Option.bind_some]
      dsimp only
      rw [if_pos (decide_eq_true e2), if_pos (decide_eq_true e3), Int.toNat_natCast, getD_rp B10 (show j + 1 < us.length by omega)]
      show Option.bind (S.s_l01Over (rp B10 (addQ oneQ (mulQ (ds.getD j zeroQ) (upF us ds j))), (rp B10 (us.getD (j + 1) zeroQ), ()))) _ = _
      rw [rs_over l2 b2 gu.1 gu.2.1 gu.2.2.1 (by omega) (by decide), Option.bind_some]
      dsimp only
      rw [if_pos (decide_eq_true e4), wr (by omega) (by omega), ← hg', range_snoc _ (j + 1), List.map_append]
      rfl) (fun g => by
    unfold P.s_l02UpTimes_b0
    dsimp only
    rw [if_neg (by simp only [List.length_map, decide_eq_true_eq]; omega)]) (by omega)
  exact key
abbrev P.s_l02DownTimes_b0  (x1 : (Int × (((List (Bool × ((List Int) × (List Int)))) × (List (Bool × ((List Int) × (List Int))))) × ((List (Bool × ((List Int) × (List Int)))) × Unit)))) (g2 : (Int × (((List (Bool × ((List Int) × (List Int)))) × (List (Bool × ((List Int) × (List Int))))) × ((List (Bool × ((List Int) × (List Int)))) × Unit))) → Option ((List (Bool × ((List Int) × (List Int)))) × Unit)) : Option ((List (Bool × ((List Int) × (List Int)))) × Unit) :=
 (if ((decide (x1.1 ≥ (0 : Int))) = true) then (Option.bind (S.s_l01One ()) (fun (y3 : ((Bool × ((List Int) × (List Int))) × Unit)) => (if ((decide ((Go.IntKind.wrap Go.IntKind.i64 (x1.1 + (1 : Int))) < (((List.length x1.2.1.2) : Nat) : Int))) = true) then (if ((decide ((0 : Int) ≤ (Go.IntKind.wrap Go.IntKind.i64 (x1.1 + (1 : Int))))) = true) then (if ((decide ((Go.IntKind.wrap Go.IntKind.i64 (x1.1 + (1 : Int))) < (((List.length x1.2.1.1) : Nat) : Int))) = true) then (if ((decide ((0 : Int) ≤ (Go.IntKind.wrap Go.IntKind.i64 (x1.1 + (1 : Int))))) = true) then (if ((decide ((Go.IntKind.wrap Go.IntKind.i64 (x1.1 + (1 : Int))) < (((List.length x1.2.2.1) : Nat) : Int))) = true) then (Option.bind (S.s_l01Times (((List.getD x1.2.1.1 (Int.toNat (Go.IntKind.wrap Go.IntKind.i64 (x1.1 + (1 : Int)))) (false , (([] : List Int) , ([] : List Int)))).1 , ((List.getD x1.2.1.1 (Int.toNat (Go.IntKind.wrap Go.IntKind.i64 (x1.1 + (1 : Int)))) (false , (([] : List Int) , ([] : List Int)))).2.1 , (List.getD x1.2.1.1 (Int.toNat (Go.IntKind.wrap Go.IntKind.i64 (x1.1 + (1 : Int)))) (false , (([] : List Int) , ([] : List Int)))).2.2)) , (((List.getD x1.2.2.1 ((0 : Nat) + (Int.toNat (Go.IntKind.wrap Go.IntKind.i64 (x1.1 + (1 : Int))))) (false , (([] : List Int) , ([] : List Int)))).1 , ((List.getD x1.2.2.1 ((0 : Nat) + (Int.toNat (Go.IntKind.wrap Go.IntKind.i64 (x1.1 + (1 : Int))))) (false , (([] : List Int) , ([] : List Int)))).2.1 , (List.getD x1.2.2.1 ((0 : Nat) + (Int.toNat (Go.IntKind.wrap Go.IntKind.i64 (x1.1 + (1 : Int))))) (false , (([] : List Int) , ([] : List Int)))).2.2)) , ()))) (fun (y4 : ((Bool × ((List Int) × (List Int))) × Unit)) => (Option.bind (S.s_l01Sum ((y3.1.1 , (y3.1.2.1 , y3.1.2.2)) , ((y4.1.1 , (y4.1.2.1 , y4.1.2.2)) , ()))) (fun (y5 : ((Bool × ((List Int) × (List Int))) × Unit)) => (if ((decide ((0 : Int) ≤ x1.1)) = true) then (if ((decide (x1.1 < (((List.length x1.2.1.2) : Nat) : Int))) = true) then (Option.bind (S.s_l01Over ((y5.1.1 , (y5.1.2.1 , y5.1.2.2)) , (((List.getD x1.2.1.2 (Int.toNat x1.1) (false , (([] : List Int) , ([] : List Int)))).1 , ((List.getD x1.2.1.2 (Int.toNat x1.1) (false , (([] : List Int) , ([] : List Int)))).2.1 , (List.getD x1.2.1.2 (Int.toNat x1.1) (false , (([] : List Int) , ([] : List Int)))).2.2)) , ()))) (fun (y6 : ((Bool × ((List Int) × (List Int))) × Unit)) => (if ((decide ((0 : Int) ≤ x1.1)) = true) then (if ((decide (x1.1 < (((List.length x1.2.2.1) : Nat) : Int))) = true) then (g2 ((Go.IntKind.wrap Go.IntKind.i64 (x1.1 - (1 : Int))) , (x1.2.1 , ((List.set x1.2.2.1 ((0 : Nat) + (Int.toNat x1.1)) (y6.1.1 , (y6.1.2.1 , y6.1.2.2))) , ()))))
 else none)
 else none)))
 else none)
 else none)))))
 else none)
 else none)
 else none)
 else none)
 else (if ((decide ((0 : Int) ≤ x1.1)) = true) then (if ((decide (x1.1 < (((List.length x1.2.1.2) : Nat) : Int))) = true) then (Option.bind (S.s_l01Over ((y3.1.1 , (y3.1.2.1 , y3.1.2.2)) , (((List.getD x1.2.1.2 (Int.toNat x1.1) (false , (([] : List Int) , ([] : List Int)))).1 , ((List.getD x1.2.1.2 (Int.toNat x1.1) (false , (([] : List Int) , ([] : List Int)))).2.1 , (List.getD x1.2.1.2 (Int.toNat x1.1) (false , (([] : List Int) , ([] : List Int)))).2.2)) , ()))) (fun (y7 : ((Bool × ((List Int) × (List Int))) × Unit)) => (if ((decide ((0 : Int) ≤ x1.1)) = true) then (if ((decide (x1.1 < (((List.length x1.2.2.1) : Nat) : Int))) = true) then (g2 ((Go.IntKind.wrap Go.IntKind.i64 (x1.1 - (1 : Int))) , (x1.2.1 , ((List.set x1.2.2.1 ((0 : Nat) + (Int.toNat x1.1)) (y7.1.1 , (y7.1.2.1 , y7.1.2.2))) , ()))))
 else none)
 else none)))
 else none)
 else none))))
 else (some (x1.2.2.1 , ())))
def P.s_l02DownTimes (k : Nat) (x : (((List (Bool × ((List Int) × (List Int)))) × (List (Bool × ((List Int) × (List Int))))) × Unit)) : (Option ((List (Bool × ((List Int) × (List Int)))) × Unit)) :=
 (if ((decide ((0 : Int) ≤ (((List.length x.1.2) : Nat) : Int))) = true) then (if ((decide ((((List.length x.1.2) : Nat) : Int) ≤ (((List.length x.1.2) : Nat) : Int))) = true) then (if ((decide (((((List.length x.1.2) : Nat) : Int) * (56 : Int)) ≤ (281474976710656 : Int))) = true) then (loopP (X := (Int × (((List (Bool × ((List Int) × (List Int)))) × (List (Bool × ((List Int) × (List Int))))) × ((List (Bool × ((List Int) × (List Int)))) × Unit)))) (R := ((List (Bool × ((List Int) × (List Int)))) × Unit)) (P.s_l02DownTimes_b0 ) k ((Go.IntKind.wrap Go.IntKind.i64 ((((List.length x.1.2) : Nat) : Int) - (1 : Int))) , (x.1 , ((List.replicate (Int.toNat (((List.length x.1.2) : Nat) : Int)) (false , (([] : List Int) , ([] : List Int)))) , ()))))
 else none)
 else none)
 else none)
open Classical in
def S.s_l02DownTimes (x : (((List (Bool × ((List Int) × (List Int)))) × (List (Bool × ((List Int) × (List Int))))) × Unit)) : (Option ((List (Bool × ((List Int) × (List Int)))) × Unit)) := if isLine B10 x.1 then some ((dnL (x.1.1.map (rv B10)) (x.1.2.map (rv B10))).map (rp B10), ()) else none
theorem S.s_l02DownTimes_ok (x : (((List (Bool × ((List Int) × (List Int)))) × (List (Bool × ((List Int) × (List Int))))) × Unit)) (r : _) (h : S.s_l02DownTimes x = some r) : ∃ k, P.s_l02DownTimes k x = some r := by
  obtain ⟨y, u⟩ := x
  unfold S.s_l02DownTimes at h
  dsimp only at h
  split at h
  case isFalse => cases h
  rename_i hc
  cases h
  obtain ⟨us, ds, rfl, hu, hd, hl, h20⟩ := hc
  obtain ⟨N, hN⟩ : ∃ N, us.length = N := ⟨_, rfl⟩
  refine ⟨N + 1, ?_⟩
  have h1 : S.s_l01One () = some (rp B10 oneQ, ()) := by rfl
  have key := loop_up0 (k := N + 1) (b := P.s_l02DownTimes_b0) (n := N) (st := fun i => ((N : Int) - 1 - (i : Int), (us.map (rp B10), ds.map (rp B10)), List.replicate (N - i) (false, (([] : List Int), ([] : List Int))) ++ ((List.range i).map fun j => rp B10 (dnF us ds (i - 1 - j))), ())) (F := fun i => some ((List.range N).map (fun j => rp B10 (dnF us ds (N - 1 - j))), ())) (fun i g hi hg' => by
    obtain ⟨m, hm⟩ : ∃ m : Nat, N = m + 1 + i := ⟨N - 1 - i, by omega⟩
    have em : (N : Int) - 1 - (i : Int) = (m : Int) := by omega
    have e0 : (m : Int) ≥ 0 := by omega
    have e1 : (0 : Int) ≤ (m : Int) := by omega
    have hlen : (List.replicate (N - i) (false, (([] : List Int), ([] : List Int))) ++ ((List.range i).map fun j => rp B10 (dnF us ds (i - 1 - j)))).length = N := by
      simp only [List.length_append, List.length_replicate, List.length_map, List.length_range]
      omega
    have e2 : (m : Int) < ((ds.map (rp B10)).length : Int) := by rw [List.length_map]; omega
    have e3 : (m : Int) < ((List.replicate (N - i) (false, (([] : List Int), ([] : List Int))) ++ ((List.range i).map fun j => rp B10 (dnF us ds (i - 1 - j)))).length : Int) := by rw [hlen]; omega
    have gd := rates_get hd (show m < ds.length by omega)
    -- what is written
    have hset : ∀ v : Q3, v = dnF us ds i → (List.replicate (N - i) (false, (([] : List Int), ([] : List Int))) ++ ((List.range i).map fun j => rp B10 (dnF us ds (i - 1 - j)))).set m (rp B10 v) = List.replicate (N - (i + 1)) (false, (([] : List Int), ([] : List Int))) ++ ((List.range (i + 1)).map fun j => rp B10 (dnF us ds (i + 1 - 1 - j))) := by
      intro v hv
      rw [show N - i = m + 1 by omega, List.replicate_succ', List.append_assoc, List.set_append_right _ _ (by simp), List.length_replicate, Nat.sub_self, show N - (i + 1) = m by omega]
      congr 1
      rw [List.range_succ_eq_map, List.map_cons, List.map_map, hv, Nat.add_sub_cancel, Nat.sub_zero]
      show rp B10 (dnF us ds i) :: _ = _
      congr 1
      refine List.map_congr_left fun j hj => ?_
      have := List.mem_range.1 hj
      show rp B10 (dnF us ds (i - 1 - j)) = rp B10 (dnF us ds (i - (j + 1)))
      rw [show i - 1 - j = i - (j + 1) by omega]
    unfold P.s_l02DownTimes_b0
    dsimp only at hg' ⊢
    rw [em, if_pos (decide_eq_true e0), h1, Option.bind_some]
    skip
    dsimp only
    rw [wr (x := (m : Int) + 1) (by omega) (by omega)]
    have ew : Go.IntKind.wrap Go.IntKind.i64 ((m : Int) - 1) = (N : Int) - 1 - ((i + 1 : Nat) : Int) := by
      rw [wr (by omega) (by omega)]
      omega
    cases i with
    | zero =>
      rw [if_neg (by simp only [List.length_map, decide_eq_true_eq]; omega), if_pos (decide_eq_true e1), if_pos (decide_eq_true e2), Int.toNat_natCast, Nat.zero_add, getD_rp B10 (show m < ds.length by omega)]
      show Option.bind (S.s_l01Over (rp B10 oneQ, (rp B10 (ds.getD m zeroQ), ()))) _ = _
      rw [rs_over oneQ_low (oneQ_below (n := 1) (by decide)) gd.1 gd.2.1 gd.2.2.1 (by decide) (by decide), Option.bind_some]
      dsimp only
      rw [if_pos (decide_eq_true e1), if_pos (decide_eq_true e3), ew, ← hg', ← hset _ (show overQ oneQ (ds.getD m zeroQ) = _ by unfold dnF; rw [show ds.length - 1 = m by omega])]
    | succ j =>
      have f0 : (m : Int) + 1 < ((ds.map (rp B10)).length : Int) := by rw [List.length_map]; omega
      have f1 : (0 : Int) ≤ (m : Int) + 1 := by omega
      have f2 : (m : Int) + 1 < ((us.map (rp B10)).length : Int) := by rw [List.length_map]; omega
      have f3 : (m : Int) + 1 < ((List.replicate (N - (j + 1)) (false, (([] : List Int), ([] : List Int))) ++ ((List.range (j + 1)).map fun q => rp B10 (dnF us ds (j + 1 - 1 - q)))).length : Int) := by rw [hlen]; omega
      have gu := rates_get hu (show m + 1 < us.length by omega)
      have gt := dnF_ok hu hd hl j (by omega)
      have l1 := mulQ_low _ _ gu.1 gt.1
      have b1 := mulQ_below gu.2.1 gt.2
      have l2 := addQ_low _ _ oneQ_low l1
      have b2 := addQ_below (oneQ_below (n := 1) (by decide)) b1
      have hget : (List.replicate (N - (j + 1)) (false, (([] : List Int), ([] : List Int))) ++ ((List.range (j + 1)).map fun q => rp B10 (dnF us ds (j + 1 - 1 - q)))).getD (m + 1) (false, (([] : List Int), ([] : List Int))) = rp B10 (dnF us ds j) := by
        rw [List.getD_eq_getElem?_getD, List.getElem?_append_right (by simp; omega), List.length_replicate, show m + 1 - (N - (j + 1)) = 0 by omega, List.getElem?_map, List.getElem?_range (by omega)]
        rfl
      rw [if_pos (decide_eq_true f0), if_pos (decide_eq_true f1), if_pos (decide_eq_true f2), if_pos (decide_eq_true f1), if_pos (decide_eq_true f3), Nat.zero_add, show ((m : Int) + 1).toNat = m + 1 by omega, hget, getD_rp B10 (show m + 1 < us.length by omega)]
      show Option.bind (S.s_l01Times (rp B10 (us.getD (m + 1) zeroQ), (rp B10 (dnF us ds j), ()))) _ = _
      rw [rs_mul gu.1 gu.2.1 gt.1 gt.2 (by decide) (by omega), Option.bind_some]
      show Option.bind (S.s_l01Sum (rp B10 oneQ, (rp B10 (mulQ (us.getD (m + 1) zeroQ) (dnF us ds j)), ()))) _ = _
      rw [rs_add oneQ_low (oneQ_below (n := 1) (by decide)) l1 b1 (by decide) (by omega), Option.bind_some]
      dsimp only
      rw [if_pos (decide_eq_true e1), if_pos (decide_eq_true e2), Int.toNat_natCast, getD_rp B10 (show m < ds.length by omega)]
      show Option.bind (S.s_l01Over (rp B10 (addQ oneQ (mulQ (us.getD (m + 1) zeroQ) (dnF us ds j))), (rp B10 (ds.getD m zeroQ), ()))) _ = _
      rw [rs_over l2 b2 gd.1 gd.2.1 gd.2.2.1 (by omega) (by decide), Option.bind_some]
      dsimp only
      rw [if_pos (decide_eq_true e1), if_pos (decide_eq_true e3), Nat.zero_add, ew, ← hg', ← hset _ (show overQ (addQ oneQ (mulQ (us.getD (m + 1) zeroQ) (dnF us ds j))) (ds.getD m zeroQ) = dnF us ds (j + 1) by rw [dnF, show ds.length - 1 - j = m + 1 by omega, show ds.length - 2 - j = m by omega])]) (fun g => by
    unfold P.s_l02DownTimes_b0
    dsimp only
    rw [if_neg (by simp only [decide_eq_true_eq]; omega), Nat.sub_self, List.replicate_zero, List.nil_append]) (by omega)
  unfold P.s_l02DownTimes dnL
  dsimp only
  rw [map_rv B10_le, map_rv B10_le, hN, List.map_map]
  have el : (ds.map (rp B10)).length = N := by rw [List.length_map]; omega
  rw [el]
  rw [if_pos (decide_eq_true (show (0 : Int) ≤ (N : Int) by omega)), if_pos (by simp), if_pos (decide_eq_true (show (N : Int) * 56 ≤ 281474976710656 by omega)), wr (by omega) (by omega), Int.toNat_natCast]
  have k2 := key
  simp only [List.range_zero, List.map_nil, List.append_nil, Nat.sub_zero] at k2
  rw [show (N : Int) - 1 - ((0 : Nat) : Int) = (N : Int) - 1 by omega] at k2
  exact k2
abbrev P.s_TimeBetween_b10  (x11 : (Int × (Int × ((Bool × ((List Int) × (List Int))) × ((List (Bool × ((List Int) × (List Int)))) × Unit))))) (g12 : (Int × (Int × ((Bool × ((List Int) × (List Int))) × ((List (Bool × ((List Int) × (List Int)))) × Unit)))) → Option ((ByteArray × Bool) × Unit)) : Option ((ByteArray × Bool) × Unit) :=
 (if ((decide (x11.1 < x11.2.1)) = true) then (if ((decide ((0 : Int) ≤ x11.1)) = true) then (if ((decide (x11.1 < (((List.length x11.2.2.2.1) : Nat) : Int))) = true) then (Option.bind (S.s_l01Sum ((x11.2.2.1.1 , (x11.2.2.1.2.1 , x11.2.2.1.2.2)) , (((List.getD x11.2.2.2.1 (Int.toNat x11.1) (false , (([] : List Int) , ([] : List Int)))).1 , ((List.getD x11.2.2.2.1 (Int.toNat x11.1) (false , (([] : List Int) , ([] : List Int)))).2.1 , (List.getD x11.2.2.2.1 (Int.toNat x11.1) (false , (([] : List Int) , ([] : List Int)))).2.2)) , ()))) (fun (y13 : ((Bool × ((List Int) × (List Int))) × Unit)) => (g12 ((Go.IntKind.wrap Go.IntKind.i64 (x11.1 + (1 : Int))) , (x11.2.1 , ((y13.1.1 , (y13.1.2.1 , y13.1.2.2)) , (x11.2.2.2.1 , ())))))))
 else none)
 else none)
 else (Option.bind (S.s_l02Give ((x11.2.2.1.1 , (x11.2.2.1.2.1 , x11.2.2.1.2.2)) , ())) (fun (y14 : ((ByteArray × Bool) × Unit)) => (some ((y14.1.1 , y14.1.2) , ())))))
abbrev P.s_TimeBetween_b5 (k : Nat) (x6 : (Int × (Int × ((Bool × ((List Int) × (List Int))) × ((List (Bool × ((List Int) × (List Int)))) × (((List (Bool × ((List Int) × (List Int)))) × (List (Bool × ((List Int) × (List Int))))) × (Int × Unit))))))) (g7 : (Int × (Int × ((Bool × ((List Int) × (List Int))) × ((List (Bool × ((List Int) × (List Int)))) × (((List (Bool × ((List Int) × (List Int)))) × (List (Bool × ((List Int) × (List Int))))) × (Int × Unit)))))) → Option ((ByteArray × Bool) × Unit)) : Option ((ByteArray × Bool) × Unit) :=
 (if ((decide (x6.1 < x6.2.1)) = true) then (if ((decide ((0 : Int) ≤ x6.1)) = true) then (if ((decide (x6.1 < (((List.length x6.2.2.2.1) : Nat) : Int))) = true) then (Option.bind (S.s_l01Sum ((x6.2.2.1.1 , (x6.2.2.1.2.1 , x6.2.2.1.2.2)) , (((List.getD x6.2.2.2.1 (Int.toNat x6.1) (false , (([] : List Int) , ([] : List Int)))).1 , ((List.getD x6.2.2.2.1 (Int.toNat x6.1) (false , (([] : List Int) , ([] : List Int)))).2.1 , (List.getD x6.2.2.2.1 (Int.toNat x6.1) (false , (([] : List Int) , ([] : List Int)))).2.2)) , ()))) (fun (y8 : ((Bool × ((List Int) × (List Int))) × Unit)) => (g7 ((Go.IntKind.wrap Go.IntKind.i64 (x6.1 + (1 : Int))) , (x6.2.1 , ((y8.1.1 , (y8.1.2.1 , y8.1.2.2)) , (x6.2.2.2.1 , ((x6.2.2.2.2.1.1 , x6.2.2.2.2.1.2) , (x6.2.2.2.2.2.1 , ())))))))))
 else none)
 else none)
 else (Option.bind (S.s_l02DownTimes ((x6.2.2.2.2.1.1 , x6.2.2.2.2.1.2) , ())) (fun (y9 : ((List (Bool × ((List Int) × (List Int)))) × Unit)) => (loopP (X := (Int × (Int × ((Bool × ((List Int) × (List Int))) × ((List (Bool × ((List Int) × (List Int)))) × Unit))))) (R := ((ByteArray × Bool) × Unit)) (P.s_TimeBetween_b10 ) k (x6.2.1 , (x6.2.2.2.2.2.1 , ((x6.2.2.1.1 , (x6.2.2.1.2.1 , x6.2.2.1.2.2)) , (y9.1 , ()))))))))
def P.s_TimeBetween (k : Nat) (x : (((List ByteArray) × (List ByteArray)) × (Int × (Int × Unit)))) : (Option ((ByteArray × Bool) × Unit)) :=
 (Option.bind (S.s_l02Parse ((x.1.1 , x.1.2) , ())) (fun (y0 : ((((List (Bool × ((List Int) × (List Int)))) × (List (Bool × ((List Int) × (List Int))))) × Bool) × Unit)) => (if ((!y0.1.2) = true) then (some (((bs []) , false) , ()))
 else (Option.bind (S.s_l00In (x.2.1 , ((0 : Int) , ((((List.length y0.1.1.1) : Nat) : Int) , ())))) (fun (y1 : (Bool × Unit)) => (if ((!y1.1) = true) then (some (((bs []) , false) , ()))
 else (Option.bind (S.s_l00In (x.2.2.1 , ((0 : Int) , ((((List.length y0.1.1.1) : Nat) : Int) , ())))) (fun (y2 : (Bool × Unit)) => (if ((!y2.1) = true) then (some (((bs []) , false) , ()))
 else (Option.bind (S.s_l01None ()) (fun (y3 : ((Bool × ((List Int) × (List Int))) × Unit)) => (Option.bind (S.s_l02UpTimes ((y0.1.1.1 , y0.1.1.2) , ())) (fun (y4 : ((List (Bool × ((List Int) × (List Int)))) × Unit)) => (loopP (X := (Int × (Int × ((Bool × ((List Int) × (List Int))) × ((List (Bool × ((List Int) × (List Int)))) × (((List (Bool × ((List Int) × (List Int)))) × (List (Bool × ((List Int) × (List Int))))) × (Int × Unit))))))) (R := ((ByteArray × Bool) × Unit)) (P.s_TimeBetween_b5 k) k (x.2.1 , (x.2.2.1 , ((y3.1.1 , (y3.1.2.1 , y3.1.2.2)) , (y4.1 , ((y0.1.1.1 , y0.1.1.2) , (x.2.1 , ()))))))))))))))))))))
theorem tb_in (n a b : Int) : S.s_l00In (n, (a, (b, ()))) = some (decide (a ≤ n ∧ n ≤ b), ()) := by
  unfold S.s_l00In P.s_l00In
  dsimp only
  by_cases h : n ≥ a
  · rw [if_pos (decide_eq_true h)]
    congr 2
    rw [decide_eq_decide]
    omega
  · rw [if_neg (by simpa using h)]
    congr 2
    symm
    exact decide_eq_false (by omega)
def S.s_TimeBetween (x : (((List ByteArray) × (List ByteArray)) × (Int × (Int × Unit)))) : (Option ((ByteArray × Bool) × Unit)) := if okT x.1.1 = true ∧ okT x.1.2 = true then some (timeT x.1.1 x.1.2 x.2.1 x.2.2.1, ()) else none
theorem S.s_TimeBetween_ok (x : (((List ByteArray) × (List ByteArray)) × (Int × (Int × Unit)))) (r : _) (h : S.s_TimeBetween x = some r) : ∃ k, P.s_TimeBetween k x = some r := by
  obtain ⟨⟨tu, td⟩, fr, to, u⟩ := x
  unfold S.s_TimeBetween at h
  dsimp only at h
  split at h
  case isFalse => cases h
  rename_i hc
  cases h
  obtain ⟨k, hk⟩ : ∃ k, k = tu.length + 1 := ⟨_, rfl⟩
  refine ⟨k, ?_⟩
  unfold P.s_TimeBetween S.s_l02Parse timeT
  dsimp only
  rw [if_pos hc, Option.bind_some]
  dsimp only
  cases hf : (lineQ tu td).2
  · rfl
  obtain ⟨h1, h2, h3, h4, h5, h6, h7⟩ := lineQ_ok hf
  rw [if_neg (by decide), h1]
  dsimp only
  rw [List.length_map, h4, tb_in, Option.bind_some]
  dsimp only
  by_cases ha : 0 ≤ fr ∧ fr ≤ (tu.length : Int)
  case neg =>
    rw [decide_eq_false ha]
    rfl
  rw [decide_eq_true ha, if_neg (by decide), tb_in, Option.bind_some]
  dsimp only
  by_cases hb : 0 ≤ to ∧ to ≤ (tu.length : Int)
  case neg =>
    rw [decide_eq_false hb]
    rfl
  rw [decide_eq_true hb, if_neg (by decide), if_pos (by decide)]
  obtain ⟨a, rfl⟩ : ∃ a : Nat, fr = (a : Int) := ⟨fr.toNat, by omega⟩
  obtain ⟨b, rfl⟩ : ∃ b : Nat, to = (b : Int) := ⟨to.toNat, by omega⟩
  generalize (rdAll tu).1 = us at *
  generalize (rdAll td).1 = ds at *
  have isl : isLine B10 (us.map (rp B10), ds.map (rp B10)) := ⟨us, ds, rfl, h2, h3, by rw [h4, h5], by rw [h4]; exact h7⟩
  have eu : S.s_l02UpTimes ((us.map (rp B10), ds.map (rp B10)), ()) = some ((upL us ds).map (rp B10), ()) := by
    unfold S.s_l02UpTimes
    dsimp only
    rw [if_pos isl, map_rv B10_le, map_rv B10_le]
  have ed : S.s_l02DownTimes ((us.map (rp B10), ds.map (rp B10)), ()) = some ((dnL us ds).map (rp B10), ()) := by
    unfold S.s_l02DownTimes
    dsimp only
    rw [if_pos isl, map_rv B10_le, map_rv B10_le]
  have hz : S.s_l01None () = some (rp B10 zeroQ, ()) := by rfl
  rw [hz, Option.bind_some, eu, Option.bind_some, Int.toNat_natCast, Int.toNat_natCast]
  dsimp only
  have ul := upL_len us ds
  have dl := dnL_len us ds
  have uo := upL_ok h2 h3 (by rw [h4, h5]) (by rw [h4]; exact h7)
  have do' := dnL_ok h2 h3 (by rw [h4, h5]) (by rw [h4]; exact h7)
  generalize upL us ds = U at *
  generalize dnL us ds = D at *
  -- the second loop, from a sum that stands
  have second : ∀ (q : Q3), low q → below 800000 q → ((a ≤ b ∧ True) ∨ (b < a ∧ q = zeroQ)) → loopP P.s_TimeBetween_b10 k ((b : Int), ((a : Int), (rp B10 q, (D.map (rp B10), ())))) = some (giveN (if a ≤ b then q else sumQ ((D.drop b).take (a - b))), ()) := by
    intro q ql qb hq
    by_cases hab : a ≤ b
    · rw [if_pos hab, hk, loopP_succ]
      unfold P.s_TimeBetween_b10
      dsimp only
      rw [if_neg (by simpa using hab)]
      show Option.bind (S.s_l02Give (rp B10 q, ())) _ = _
      rw [rs_give2 qb (by decide), Option.bind_some]
    · have hq0 : q = zeroQ := by
        rcases hq with h | h
        · exact absurd h.1 hab
        · exact h.2
      subst hq0
      rw [if_neg hab]
      have hL := do'
      have hN : (8261 + 1) * D.length + 1 ≤ 800000 := by omega
      have key := loop_up0 (k := k) (b := P.s_TimeBetween_b10) (n := a - b) (st := fun j => (((b + j : Nat) : Int), ((a : Nat) : Int), rp B10 (sumQ (((D.drop b).take (a - b)).take j)), D.map (rp B10), ())) (F := fun j => some (giveN (sumQ ((D.drop b).take (a - b))), ())) (fun j g hj hg' => by
        have e1 : ((b + j : Nat) : Int) < ((a : Nat) : Int) := by omega
        have e2 : (0 : Int) ≤ ((b + j : Nat) : Int) := by omega
        have e3 : ((b + j : Nat) : Int) < ((D.map (rp B10)).length : Int) := by rw [List.length_map]; omega
        have gq := good_slice hL b (a - b) hN
        have hlen : ((D.drop b).take (a - b)).length = a - b := by simp; omega
        have hget : D.getD (b + j) zeroQ = ((D.drop b).take (a - b))[j]'(by omega) := by
          rw [List.getElem_take, List.getElem_drop, List.getD_eq_getElem?_getD, List.getElem?_eq_getElem (by omega)]
          rfl
        have g1 := good_take gq j
        have g2 := mem_getD hL (show b + j < D.length by omega)
        unfold P.s_TimeBetween_b10
        dsimp only at hg' ⊢
        rw [if_pos (decide_eq_true e1), if_pos (decide_eq_true e2), if_pos (decide_eq_true e3), Int.toNat_natCast, getD_rp B10 (show b + j < D.length by omega)]
        show Option.bind (S.s_l01Sum (rp B10 (sumQ (((D.drop b).take (a - b)).take j)), (rp B10 (D.getD (b + j) zeroQ), ()))) _ = _
        rw [rs_add g1.1 g1.2 g2.1 g2.2 (by decide) (by decide), Option.bind_some, hget, sumQ_take (by omega), wr (by omega) (by omega)]
        exact hg') (fun g => by
        have gq := good_sum (good_slice hL b (a - b) hN)
        have hlen : ((D.drop b).take (a - b)).length = a - b := by simp; omega
        unfold P.s_TimeBetween_b10
        dsimp only
        rw [if_neg (by simp; omega), List.take_of_length_le (by omega)]
        show Option.bind (S.s_l02Give (rp B10 (sumQ ((D.drop b).take (a - b))), ())) _ = _
        rw [rs_give2 gq.2 (by decide), Option.bind_some]) (by omega)
      exact key
  have cast : ((a : Int) ≤ (b : Int)) ↔ a ≤ b := by omega
  by_cases hab : a ≤ b
  · have hL := uo
    have hN : (8261 + 1) * U.length + 1 ≤ 800000 := by omega
    have key := loop_up0 (k := k) (b := (P.s_TimeBetween_b5 k)) (n := b - a) (st := fun j => (((a + j : Nat) : Int), ((b : Nat) : Int), rp B10 (sumQ (((U.drop a).take (b - a)).take j)), U.map (rp B10), (us.map (rp B10), ds.map (rp B10)), (a : Int), ())) (F := fun j => some (giveN (sumQ ((U.drop a).take (b - a))), ())) (fun j g hj hg' => by
      have e1 : ((a + j : Nat) : Int) < ((b : Nat) : Int) := by omega
      have e2 : (0 : Int) ≤ ((a + j : Nat) : Int) := by omega
      have e3 : ((a + j : Nat) : Int) < ((U.map (rp B10)).length : Int) := by rw [List.length_map]; omega
      have gq := good_slice hL a (b - a) hN
      have hlen : ((U.drop a).take (b - a)).length = b - a := by simp; omega
      have hget : U.getD (a + j) zeroQ = ((U.drop a).take (b - a))[j]'(by omega) := by
        rw [List.getElem_take, List.getElem_drop, List.getD_eq_getElem?_getD, List.getElem?_eq_getElem (by omega)]
        rfl
      have g1 := good_take gq j
      have g2 := mem_getD hL (show a + j < U.length by omega)
      unfold P.s_TimeBetween_b5
      dsimp only at hg' ⊢
      rw [if_pos (decide_eq_true e1), if_pos (decide_eq_true e2), if_pos (decide_eq_true e3), Int.toNat_natCast, getD_rp B10 (show a + j < U.length by omega)]
      show Option.bind (S.s_l01Sum (rp B10 (sumQ (((U.drop a).take (b - a)).take j)), (rp B10 (U.getD (a + j) zeroQ), ()))) _ = _
      rw [rs_add g1.1 g1.2 g2.1 g2.2 (by decide) (by decide), Option.bind_some, hget, sumQ_take (by omega), wr (by omega) (by omega)]
      exact hg') (fun g => by
      have gq := good_sum (good_slice hL a (b - a) hN)
      have hlen : ((U.drop a).take (b - a)).length = b - a := by simp; omega
      unfold P.s_TimeBetween_b5
      dsimp only
      rw [if_neg (by simp; omega), List.take_of_length_le (by omega), ed, Option.bind_some]
      have := second _ gq.1 gq.2 (.inl ⟨hab, trivial⟩)
      rw [if_pos hab] at this
      exact this) (by omega)
    rw [if_pos (cast.2 hab)]
    exact key
  · rw [if_neg (fun z => hab (cast.1 z)), hk, loopP_succ, ← hk]
    unfold P.s_TimeBetween_b5
    dsimp only
    rw [if_neg (by simp; omega), ed, Option.bind_some]
    have := second zeroQ zeroQ_low (zeroQ_below (by decide)) (.inr ⟨by omega, rfl⟩)
    rw [if_neg hab] at this
    exact this
def P.i_in (k : Nat) (x : (Int × (Int × (Int × Unit)))) : (Option (Bool × Unit)) :=
 (if ((decide (x.1 ≥ x.2.1)) = true) then (some ((decide (x.1 ≤ x.2.2.1)) , ()))
 else (some (false , ())))
def S.i_in (x : (Int × (Int × (Int × Unit)))) : (Option (Bool × Unit)) := P.i_in 0 x
theorem S.i_in_ok (x : (Int × (Int × (Int × Unit)))) (r : _) (h : S.i_in x = some r) : ∃ k, P.i_in k x = some r := ⟨0, h⟩
def S.strconv_FormatUint (x : (Int × (Int × Unit))) : (Option (ByteArray × Unit)) := if x.2.1 = 10 ∧ 0 ≤ x.1 ∧ x.1 < 18446744073709551616 then some (⟨(Go.Lib.decDigits x.1.toNat).toArray⟩, ()) else none
/-- The length of what is joined. -/
def joinB (xs : List ByteArray) (sep : ByteArray) : List UInt8 := Go.Lib.join (xs.map (·.data.toList)) sep.data.toList
def S.strings_Join (x : ((List ByteArray) × (ByteArray × Unit))) : (Option (ByteArray × Unit)) := if x.1.length ≤ 140737488355328 ∧ (joinB x.1 x.2.1).length ≤ 140737488355328 then some (⟨(joinB x.1 x.2.1).toArray⟩, ()) else none
def S.strings_Repeat (x : (ByteArray × (Int × Unit))) : (Option (ByteArray × Unit)) := if 0 ≤ x.2.1 ∧ x.2.1 ≤ 1000000 ∧ x.1.size ≤ 1000000 then some (⟨(Go.Lib.repeatL x.1.data.toList x.2.1.toNat).toArray⟩, ()) else none
abbrev P.slices_Reverse__string_string_b0  (x1 : (Int × (Int × ((List ByteArray) × Unit)))) (g2 : (Int × (Int × ((List ByteArray) × Unit))) → Option (Unit × ((List ByteArray) × Unit))) : Option (Unit × ((List ByteArray) × Unit)) :=
 (if ((decide (x1.1 < x1.2.1)) = true) then (if ((decide ((0 : Int) ≤ x1.2.1)) = true) then (if ((decide (x1.2.1 < (((List.length x1.2.2.1) : Nat) : Int))) = true) then (if ((decide ((0 : Int) ≤ x1.1)) = true) then (if ((decide (x1.1 < (((List.length x1.2.2.1) : Nat) : Int))) = true) then (if ((decide ((0 : Int) ≤ x1.1)) = true) then (if ((decide (x1.1 < (((List.length x1.2.2.1) : Nat) : Int))) = true) then (if ((decide ((0 : Int) ≤ x1.2.1)) = true) then (if ((decide (x1.2.1 < (((List.length (List.set x1.2.2.1 ((0 : Nat) + (Int.toNat x1.1)) (List.getD x1.2.2.1 ((0 : Nat) + (Int.toNat x1.2.1)) (bs [])))) : Nat) : Int))) = true) then (g2 ((Go.IntKind.wrap Go.IntKind.i64 (x1.1 + (1 : Int))) , ((Go.IntKind.wrap Go.IntKind.i64 (x1.2.1 - (1 : Int))) , ((List.set (List.set x1.2.2.1 ((0 : Nat) + (Int.toNat x1.1)) (List.getD x1.2.2.1 ((0 : Nat) + (Int.toNat x1.2.1)) (bs []))) ((0 : Nat) + (Int.toNat x1.2.1)) (List.getD x1.2.2.1 ((0 : Nat) + (Int.toNat x1.1)) (bs []))) , ()))))
 else none)
 else none)
 else none)
 else none)
 else none)
 else none)
 else none)
 else none)
 else (some (() , (x1.2.2.1 , ()))))
def P.slices_Reverse__string_string (k : Nat) (x : ((List ByteArray) × Unit)) : (Option (Unit × ((List ByteArray) × Unit))) :=
 (loopP (X := (Int × (Int × ((List ByteArray) × Unit)))) (R := (Unit × ((List ByteArray) × Unit))) (P.slices_Reverse__string_string_b0 ) k ((0 : Int) , ((Go.IntKind.wrap Go.IntKind.i64 ((((List.length x.1) : Nat) : Int) - (1 : Int))) , (x.1 , ()))))
/-- A list whose first and last t places are turned. -/
def rvd (xs : List ByteArray) (t : Nat) : List ByteArray := (List.range xs.length).map fun p => if p < t ∨ xs.length - t ≤ p then xs.getD (xs.length - 1 - p) (bs []) else xs.getD p (bs [])
theorem rvd_len (xs : List ByteArray) (t : Nat) : (rvd xs t).length = xs.length := by simp [rvd]
theorem rvd_get (xs : List ByteArray) (t p : Nat) (h : p < xs.length) : (rvd xs t).getD p (bs []) = if p < t ∨ xs.length - t ≤ p then xs.getD (xs.length - 1 - p) (bs []) else xs.getD p (bs []) := by
  unfold rvd
  rw [List.getD_eq_getElem?_getD, List.getElem?_map, List.getElem?_range h]
  rfl
theorem getD_ext {xs ys : List ByteArray} (hl : xs.length = ys.length) (h : ∀ p, p < xs.length → xs.getD p (bs []) = ys.getD p (bs [])) : xs = ys := by
  apply List.ext_getElem hl
  intro i h1 h2
  have := h i h1
  simpa [h1, h2] using this
theorem rvd_end (xs : List ByteArray) : rvd xs (xs.length / 2) = xs.reverse := by
  apply getD_ext (by rw [rvd_len, List.length_reverse])
  intro p hp
  rw [rvd_len] at hp
  rw [rvd_get _ _ _ hp]
  have e : xs.reverse.getD p (bs []) = xs.getD (xs.length - 1 - p) (bs []) := by
    rw [List.getD_eq_getElem?_getD, List.getElem?_reverse hp, ← List.getD_eq_getElem?_getD]
  rw [e]
  split
  · rfl
  · rename_i hq
    have : xs.length - 1 - p = p := by omega
    rw [this]
theorem getD_set' (l : List ByteArray) (i p : Nat) (v : ByteArray) (h : p < l.length) : (l.set i v).getD p (bs []) = if p = i then v else l.getD p (bs []) := by
  rw [List.getD_eq_getElem?_getD, List.getElem?_set]
  by_cases e : i = p
  · subst e
    simp [h]
  · rw [if_neg e, if_neg (fun q => e q.symm), ← List.getD_eq_getElem?_getD]
theorem rvd_step (xs : List ByteArray) (t : Nat) (ht : t < xs.length / 2) : ((rvd xs t).set t ((rvd xs t).getD (xs.length - 1 - t) (bs []))).set (xs.length - 1 - t) ((rvd xs t).getD t (bs [])) = rvd xs (t + 1) := by
  apply getD_ext (by simp [rvd_len])
  intro p hp
  simp only [List.length_set, rvd_len] at hp
  rw [getD_set' _ _ _ _ (by simp [rvd_len]; exact hp), getD_set' _ _ _ _ (by rw [rvd_len]; exact hp), rvd_get _ _ _ hp, rvd_get _ _ _ hp, rvd_get _ _ _ (show t < xs.length by omega), rvd_get _ _ _ (show xs.length - 1 - t < xs.length by omega)]
  rw [if_neg (show ¬ (t < t ∨ xs.length - t ≤ t) by omega), if_neg (show ¬ (xs.length - 1 - t < t ∨ xs.length - t ≤ xs.length - 1 - t) by omega)]
  by_cases h1 : p = xs.length - 1 - t
  · rw [if_pos h1, if_pos (by omega)]
    congr 1
    omega
  · rw [if_neg h1]
    by_cases h2 : p = t
    · rw [if_pos h2, if_pos (by omega)]
      congr 1
      omega
    · rw [if_neg h2]
      by_cases h3 : p < t ∨ xs.length - t ≤ p
      · rw [if_pos h3, if_pos (by omega)]
      · rw [if_neg h3, if_neg (by omega)]
def S.slices_Reverse__string_string (x : ((List ByteArray) × Unit)) : (Option (Unit × ((List ByteArray) × Unit))) := if x.1.length ≤ 1000000000 then some ((), (x.1.reverse, ())) else none
theorem S.slices_Reverse__string_string_ok (x : ((List ByteArray) × Unit)) (r : _) (h : S.slices_Reverse__string_string x = some r) : ∃ k, P.slices_Reverse__string_string k x = some r := by
  obtain ⟨xs, u⟩ := x
  unfold S.slices_Reverse__string_string at h
  dsimp only at h
  split at h
  case isFalse => cases h
  rename_i hl
  cases h
  refine ⟨xs.length / 2 + 1, ?_⟩
  unfold P.slices_Reverse__string_string
  dsimp only
  rw [wr (by omega) (by omega)]
  have key := loop_up0 (k := xs.length / 2 + 1) (b := P.slices_Reverse__string_string_b0) (n := xs.length / 2) (st := fun t => ((t : Int), (xs.length : Int) - 1 - (t : Int), rvd xs t, ())) (F := fun t => some ((), (xs.reverse, ()))) (fun t g ht hg => by
    unfold P.slices_Reverse__string_string_b0
    dsimp only at hg ⊢
    have e5 : (xs.length : Int) - 1 - (t : Int) = ((xs.length - 1 - t : Nat) : Int) := by omega
    rw [e5]
    have e1 : (t : Int) < ((xs.length - 1 - t : Nat) : Int) := by omega
    have e2 : (0 : Int) ≤ ((xs.length - 1 - t : Nat) : Int) := by omega
    have e3 : ((xs.length - 1 - t : Nat) : Int) < (xs.length : Int) := by omega
    have e4 : (0 : Int) ≤ (t : Int) := by omega
    have e6 : (t : Int) < (xs.length : Int) := by omega
    simp only [rvd_len, List.length_set, e1, e2, e3, e4, e6, decide_true, if_true, Int.toNat_natCast, Nat.zero_add]
    rw [rvd_step xs t ht, wr (by omega) (by omega), wr (by omega) (by omega), ← hg]
    congr 1
    all_goals (simp only [Prod.mk.injEq]; and_intros <;> first | rfl | omega | trivial)) (fun g => by
    unfold P.slices_Reverse__string_string_b0
    dsimp only
    rw [if_neg (by simp; omega), rvd_end]) (by omega)
  have e0 : rvd xs 0 = xs := by
    apply getD_ext (rvd_len _ _)
    intro p hp
    rw [rvd_len] at hp
    rw [rvd_get _ _ _ hp, if_neg (by omega)]
  rw [show (xs.length : Int) - 1 - ((0 : Nat) : Int) = (xs.length : Int) - 1 by omega, e0] at key
  exact key
abbrev P.i_nat_trim_b0  (x1 : ((List Int) × Unit)) (g2 : ((List Int) × Unit) → Option ((List Int) × Unit)) : Option ((List Int) × Unit) :=
 (if ((decide ((((List.length x1.1) : Nat) : Int) > (0 : Int))) = true) then (if ((decide ((0 : Int) ≤ (Go.IntKind.wrap Go.IntKind.i64 ((((List.length x1.1) : Nat) : Int) - (1 : Int))))) = true) then (if ((decide ((Go.IntKind.wrap Go.IntKind.i64 ((((List.length x1.1) : Nat) : Int) - (1 : Int))) < (((List.length x1.1) : Nat) : Int))) = true) then (if (((List.getD x1.1 (Int.toNat (Go.IntKind.wrap Go.IntKind.i64 ((((List.length x1.1) : Nat) : Int) - (1 : Int)))) (0 : Int)) == (0 : Int)) = true) then (if ((decide ((0 : Int) ≤ (Go.IntKind.wrap Go.IntKind.i64 ((((List.length x1.1) : Nat) : Int) - (1 : Int))))) = true) then (if ((decide ((Go.IntKind.wrap Go.IntKind.i64 ((((List.length x1.1) : Nat) : Int) - (1 : Int))) ≤ (((List.length x1.1) : Nat) : Int))) = true) then (if ((decide ((0 : Int) ≤ (Go.IntKind.wrap Go.IntKind.i64 ((((List.length x1.1) : Nat) : Int) - (1 : Int))))) = true) then (g2 ((seen x1.1 (0 : Nat) ((Int.toNat (Go.IntKind.wrap Go.IntKind.i64 ((((List.length x1.1) : Nat) : Int) - (1 : Int)))) - (0 : Nat))) , ()))
 else none)
 else none)
 else none)
 else (some (x1.1 , ())))
 else none)
 else none)
 else (some (x1.1 , ())))
def P.i_nat_trim (k : Nat) (x : ((List Int) × Unit)) : (Option ((List Int) × Unit)) :=
 (loopP (X := ((List Int) × Unit)) (R := ((List Int) × Unit)) (P.i_nat_trim_b0 ) k (x.1 , ()))
theorem trim_loop (n : Nat) : ∀ (xs : List Int) (k : Nat), xs.length = n → n < k → n ≤ 1000000000000 → dig B32 xs = true → loopP (X := ((List Int) × Unit)) (R := ((List Int) × Unit)) P.i_nat_trim_b0 k (xs, ()) = some (nd B32 (dval B32 xs), ()) := by
  induction n with
  | zero =>
    intro xs k hx hk _ _
    have : xs = [] := List.eq_nil_of_length_eq_zero hx
    subst this
    obtain ⟨k, rfl⟩ : ∃ j, k = j + 1 := ⟨k - 1, by omega⟩
    rw [loopP_succ]
    unfold P.i_nat_trim_b0
    rw [if_neg (by simp)]
    rw [show dval B32 [] = 0 from rfl, nd_zero B32_le]
  | succ n ih =>
    intro xs k hx hk hn hd
    obtain ⟨k, rfl⟩ : ∃ j, k = j + 1 := ⟨k - 1, by omega⟩
    rw [loopP_succ]
    unfold P.i_nat_trim_b0
    dsimp only
    have e0 : Go.IntKind.wrap Go.IntKind.i64 ((xs.length : Int) - 1) = (n : Int) := by rw [wr (by omega) (by omega)]; omega
    have e1 : (xs.length : Int) > 0 := by omega
    have e2 : (0 : Int) ≤ (n : Int) := by omega
    have e3 : (n : Int) < (xs.length : Int) := by omega
    have e4 : (n : Int) ≤ (xs.length : Int) := by omega
    rw [e0]
    simp only [e1, e2, e3, e4, decide_true, if_true]
    rw [getD_cast xs n _ (by omega)]
    have hs := take_snoc xs n hx
    have hdt : dig B32 (xs.take n ++ [xs[n]]) = true := by rw [← hs]; exact hd
    by_cases hz : xs[n] = 0
    · rw [if_pos (by simp [hz])]
      have e5 : seen xs 0 ((n : Int).toNat - 0) = xs.take n := by simp [seen]
      rw [e5]
      have hdt' := hdt
      rw [dig_append, Bool.and_eq_true] at hdt'
      rw [ih (xs.take n) k (by simp; omega) (by omega) (by omega) hdt'.1]
      have : dval B32 xs = dval B32 (xs.take n) := by
        conv => lhs; rw [hs, hz]
        exact dval_snoc_zero _
      rw [this]
    · rw [if_neg (by simp [hz])]
      have := nd_snoc B32_le (xs.take n) xs[n] hdt hz
      rw [← hs] at this
      rw [this]
def S.i_nat_trim (x : ((List Int) × Unit)) : (Option ((List Int) × Unit)) := if dig B32 x.1 = true ∧ x.1.length ≤ 1000000000000 then some (nd B32 (dval B32 x.1), ()) else none
theorem S.i_nat_trim_ok (x : ((List Int) × Unit)) (r : _) (h : S.i_nat_trim x = some r) : ∃ k, P.i_nat_trim k x = some r := by
  obtain ⟨xs, u⟩ := x
  unfold S.i_nat_trim at h
  dsimp only at h
  split at h
  case isFalse => cases h
  rename_i hc
  cases h
  exact ⟨xs.length + 1, trim_loop xs.length xs _ rfl (by omega) hc.2 hc.1⟩
theorem trim_i (xs : List Int) (h : dig B32 xs = true) (hl : xs.length ≤ 1000000000000) : S.i_nat_trim (xs, ()) = some (nd B32 (dval B32 xs), ()) := by
  unfold S.i_nat_trim
  dsimp only
  rw [if_pos ⟨h, hl⟩]
abbrev P.i_nat_divSmall_b0  (x1 : (Int × (Int × ((List Int) × ((List Int) × (Int × Unit)))))) (g2 : (Int × (Int × ((List Int) × ((List Int) × (Int × Unit))))) → Option (((List Int) × Int) × Unit)) : Option (((List Int) × Int) × Unit) :=
 (if ((decide (x1.1 ≥ (0 : Int))) = true) then (if ((decide ((0 : Int) ≤ x1.1)) = true) then (if ((decide (x1.1 < (((List.length x1.2.2.1) : Nat) : Int))) = true) then (if ((decide ((Go.IntKind.wrap Go.IntKind.u64 x1.2.2.2.2.1) = (0 : Int))) = true) then none
 else (if ((decide ((0 : Int) ≤ x1.1)) = true) then (if ((decide (x1.1 < (((List.length x1.2.2.2.1) : Nat) : Int))) = true) then (if ((decide ((Go.IntKind.wrap Go.IntKind.u64 x1.2.2.2.2.1) = (0 : Int))) = true) then none
 else (g2 ((Go.IntKind.wrap Go.IntKind.i64 (x1.1 - (1 : Int))) , ((Int.tmod (Go.IntKind.wrap Go.IntKind.u64 ((Go.IntKind.wrap Go.IntKind.u64 (x1.2.1 * (4294967296 : Int))) + (Go.IntKind.wrap Go.IntKind.u64 (List.getD x1.2.2.1 (Int.toNat x1.1) (0 : Int))))) (Go.IntKind.wrap Go.IntKind.u64 x1.2.2.2.2.1)) , (x1.2.2.1 , ((List.set x1.2.2.2.1 ((0 : Nat) + (Int.toNat x1.1)) (Go.IntKind.wrap Go.IntKind.u32 (Go.IntKind.wrap Go.IntKind.u64 (Int.tdiv (Go.IntKind.wrap Go.IntKind.u64 ((Go.IntKind.wrap Go.IntKind.u64 (x1.2.1 * (4294967296 : Int))) + (Go.IntKind.wrap Go.IntKind.u64 (List.getD x1.2.2.1 (Int.toNat x1.1) (0 : Int))))) (Go.IntKind.wrap Go.IntKind.u64 x1.2.2.2.2.1))))) , (x1.2.2.2.2.1 , ())))))))
 else none)
 else none))
 else none)
 else none)
 else (Option.bind (S.i_nat_trim (x1.2.2.2.1 , ())) (fun (y3 : ((List Int) × Unit)) => (some ((y3.1 , (Go.IntKind.wrap Go.IntKind.u32 x1.2.1)) , ())))))
def P.i_nat_divSmall (k : Nat) (x : ((List Int) × (Int × Unit))) : (Option (((List Int) × Int) × Unit)) :=
 (if ((decide ((0 : Int) ≤ (((List.length x.1) : Nat) : Int))) = true) then (if ((decide ((((List.length x.1) : Nat) : Int) ≤ (((List.length x.1) : Nat) : Int))) = true) then (if ((decide (((((List.length x.1) : Nat) : Int) * (4 : Int)) ≤ (281474976710656 : Int))) = true) then (loopP (X := (Int × (Int × ((List Int) × ((List Int) × (Int × Unit)))))) (R := (((List Int) × Int) × Unit)) (P.i_nat_divSmall_b0 ) k ((Go.IntKind.wrap Go.IntKind.i64 ((((List.length x.1) : Nat) : Int) - (1 : Int))) , ((0 : Int) , (x.1 , ((List.replicate (Int.toNat (((List.length x.1) : Nat) : Int)) (0 : Int)) , (x.2.1 , ()))))))
 else none)
 else none)
 else none)
def S.i_nat_divSmall (x : ((List Int) × (Int × Unit))) : (Option (((List Int) × Int) × Unit)) := if dig B32 x.1 = true ∧ 0 < x.2.1 ∧ x.2.1 < 4294967296 ∧ x.1.length ≤ 1000000000000 then some ((nd B32 (dval B32 x.1 / x.2.1.toNat), ((dval B32 x.1 % x.2.1.toNat : Nat) : Int)), ()) else none
theorem S.i_nat_divSmall_ok (x : ((List Int) × (Int × Unit))) (r : _) (h : S.i_nat_divSmall x = some r) : ∃ k, P.i_nat_divSmall k x = some r := by
  obtain ⟨xs, b, u⟩ := x
  unfold S.i_nat_divSmall at h
  dsimp only at h
  split at h
  case isFalse => cases h
  rename_i hc
  obtain ⟨hd, hb0, hb1, hl⟩ := hc
  cases h
  refine ⟨xs.length + 1, ?_⟩
  unfold P.i_nat_divSmall
  dsimp only
  have a1 : (0 : Int) ≤ (xs.length : Int) := by omega
  have a2 : (xs.length : Int) ≤ (xs.length : Int) := by omega
  have a3 : (xs.length : Int) * 4 ≤ 281474976710656 := by omega
  simp only [a1, a2, a3, decide_true, if_true]
  rw [wr (by omega) (by omega), Int.toNat_natCast]
  have hdr : ∀ m, dig B32 (xs.drop m) = true := by
    intro m
    have := List.take_append_drop m xs
    have hd' := hd
    rw [← this, dig_append, Bool.and_eq_true] at hd'
    exact hd'.2
  have hbN : 0 < b.toNat := by omega
  have key := loop_up0 (k := xs.length + 1) (b := P.i_nat_divSmall_b0) (n := xs.length) (st := fun j => ((xs.length : Int) - 1 - (j : Int), ((qdiv B32 b.toNat (xs.drop (xs.length - j))).2 : Int), xs, List.replicate (xs.length - j) (0 : Int) ++ (qdiv B32 b.toNat (xs.drop (xs.length - j))).1, b, ())) (F := fun j => some ((nd B32 (dval B32 xs / b.toNat), ((dval B32 xs % b.toNat : Nat) : Int)), ())) (fun j g hj hg => by
    unfold P.i_nat_divSmall_b0
    dsimp only at hg ⊢
    obtain ⟨q1, q2, q3, q4⟩ := qdiv_ok B32 b.toNat hbN (xs.drop (xs.length - j)) (hdr _)
    have hi : xs.length - (j + 1) < xs.length := by omega
    have e5 : (xs.length : Int) - 1 - (j : Int) = ((xs.length - (j + 1) : Nat) : Int) := by omega
    have e6 : xs.drop (xs.length - (j + 1)) = xs[xs.length - (j + 1)] :: xs.drop (xs.length - j) := by
      rw [List.drop_eq_getElem_cons hi]
      congr 2
      omega
    have e7 : xs.length - j = (xs.length - (j + 1)) + 1 := by omega
    have hlen : (List.replicate (xs.length - j) (0 : Int) ++ (qdiv B32 b.toNat (xs.drop (xs.length - j))).1).length = xs.length := by
      rw [List.length_append, List.length_replicate, q2, List.length_drop]; omega
    have hx := dig_get hd hi
    have hx1 : xs[xs.length - (j + 1)] < 4294967296 := hx.2
    have hx0 := hx.1
    have hm : (qdiv B32 b.toNat (xs.drop (xs.length - j))).2 < b.toNat := by rw [q4]; exact Nat.mod_lt _ hbN
    rw [e6] at hg
    rw [hlen, e5, getD_cast xs _ _ hi]
    have a1 : ((xs.length - (j + 1) : Nat) : Int) ≥ 0 := by omega
    have a2 : (0 : Int) ≤ ((xs.length - (j + 1) : Nat) : Int) := by omega
    have a3 : ((xs.length - (j + 1) : Nat) : Int) < (xs.length : Int) := by omega
    rw [wu (x := b) (by omega) (by omega)]
    have a4 : ¬ (b = 0) := by omega
    simp only [a1, a3, a4, decide_true, decide_false, if_true, if_false, Bool.false_eq_true]
    generalize hR : (qdiv B32 b.toNat (xs.drop (xs.length - j))).2 = R at *
    generalize hX : xs[xs.length - (j + 1)] = X at *
    have hRX : (R : Int) * 4294967296 + X < b * 4294967296 := by omega
    rw [wu (x := (R : Int) * 4294967296) (by omega) (by omega), wu (x := X) (by omega) (by omega), wu (x := (R : Int) * 4294967296 + X) (by omega) (by omega)]
    have eT : Int.tdiv ((R : Int) * 4294967296 + X) b = (((R * B32 + X.toNat) / b.toNat : Nat) : Int) := by
      rw [Int.tdiv_eq_ediv_of_nonneg (by omega)]
      have : (R : Int) * 4294967296 + X = ((R * 4294967296 + X.toNat : Nat) : Int) := by omega
      rw [this]
      have hb : b = ((b.toNat : Nat) : Int) := by omega
      conv => lhs; rw [hb]
      exact (Int.natCast_ediv _ _).symm
    have eM : Int.tmod ((R : Int) * 4294967296 + X) b = (((R * B32 + X.toNat) % b.toNat : Nat) : Int) := by
      rw [Int.tmod_eq_emod_of_nonneg (by omega)]
      have : (R : Int) * 4294967296 + X = ((R * 4294967296 + X.toNat : Nat) : Int) := by omega
      rw [this]
      have hb : b = ((b.toNat : Nat) : Int) := by omega
      conv => lhs; rw [hb]
      exact (Int.natCast_emod _ _).symm
    have hQ : (R * B32 + X.toNat) / b.toNat < B32 := (Nat.div_lt_iff_lt_mul hbN).2 (by
      show R * 4294967296 + X.toNat < 4294967296 * b.toNat
      omega)
    have hQ' : (R * B32 + X.toNat) / b.toNat < 4294967296 := hQ
    have z0 : (0 : Int) ≤ (((R * B32 + X.toNat) / b.toNat : Nat) : Int) := Int.natCast_nonneg _
    have z1 : (((R * B32 + X.toNat) / b.toNat : Nat) : Int) < 4294967296 := Int.ofNat_lt.2 hQ'
    rw [eT, eM, wu z0 (Int.lt_trans z1 (by decide)), w32 z0 z1, wr (x := ((xs.length - (j + 1) : Nat) : Int) - 1) (by omega) (by omega), Nat.zero_add, Int.toNat_natCast]
    have hset : ∀ (Q : List Int) (v : Int), (List.replicate (xs.length - j) (0 : Int) ++ Q).set (xs.length - (j + 1)) v = List.replicate (xs.length - (j + 1)) 0 ++ v :: Q := by
      intro Q v
      rw [e7]
      exact set_back _ _ _
    rw [hset, ← hg]
    congr 1
    simp only [Prod.mk.injEq, qdiv]
    rw [hR]
    and_intros <;> first | rfl | omega | trivial) (fun g => by
    unfold P.i_nat_divSmall_b0
    dsimp only
    obtain ⟨q1, q2, q3, q4⟩ := qdiv_ok B32 b.toNat hbN xs hd
    rw [if_neg (by simp; omega), Nat.sub_self, List.drop_zero, List.replicate_zero, List.nil_append, trim_i _ q1 (by omega), Option.bind_some, q3, q4]
    have hm := Nat.mod_lt (dval B32 xs) hbN
    rw [w32 (by omega) (by omega)]) (by omega)
  rw [show (xs.length : Int) - 1 - ((0 : Nat) : Int) = (xs.length : Int) - 1 by omega, Nat.sub_zero, List.drop_length] at key
  simpa [qdiv] using key
abbrev P.i_nat_text_b0  (x1 : ((List Int) × ((List ByteArray) × Unit))) (g2 : ((List Int) × ((List ByteArray) × Unit)) → Option (ByteArray × Unit)) : Option (ByteArray × Unit) :=
 (if ((decide ((((List.length x1.1) : Nat) : Int) > (0 : Int))) = true) then (Option.bind (S.i_nat_divSmall (x1.1 , ((1000000000 : Int) , ()))) (fun (y3 : (((List Int) × Int) × Unit)) => (Option.bind (S.strconv_FormatUint ((Go.IntKind.wrap Go.IntKind.u64 y3.1.2) , ((10 : Int) , ()))) (fun (y4 : (ByteArray × Unit)) => (if ((decide ((((List.length y3.1.1) : Nat) : Int) > (0 : Int))) = true) then (Option.bind (S.strings_Repeat ((bs [48]) , ((Go.IntKind.wrap Go.IntKind.i64 ((9 : Int) - (((ByteArray.size y4.1) : Nat) : Int))) , ()))) (fun (y5 : (ByteArray × Unit)) => (if ((decide (((ByteArray.size y5.1) + (ByteArray.size y4.1)) ≤ (9223372036854775807 : Nat))) = true) then (if ((decide ((((List.length x1.2.1) + (List.length ((y5.1 ++ y4.1) :: ([] : List ByteArray)))) * (16 : Nat)) ≤ (140737488355328 : Nat))) = true) then (g2 (y3.1.1 , ((x1.2.1 ++ ((y5.1 ++ y4.1) :: ([] : List ByteArray))) , ())))
 else none)
 else none)))
 else (if ((decide ((((List.length x1.2.1) + (List.length (y4.1 :: ([] : List ByteArray)))) * (16 : Nat)) ≤ (140737488355328 : Nat))) = true) then (g2 (y3.1.1 , ((x1.2.1 ++ (y4.1 :: ([] : List ByteArray))) , ())))
 else none))))))
 else (Option.bind (S.slices_Reverse__string_string (x1.2.1 , ())) (fun (y6 : (Unit × ((List ByteArray) × Unit))) => (Option.bind (S.strings_Join ((splice x1.2.1 y6.2.1 (0 : Nat)) , ((bs []) , ()))) (fun (y7 : (ByteArray × Unit)) => (some (y7.1 , ())))))))
def P.i_nat_text (k : Nat) (x : ((List Int) × Unit)) : (Option (ByteArray × Unit)) :=
 (if (((((List.length x.1) : Nat) : Int) == (0 : Int)) = true) then (some ((bs [48]) , ()))
 else (loopP (X := ((List Int) × ((List ByteArray) × Unit))) (R := (ByteArray × Unit)) (P.i_nat_text_b0 ) k (x.1 , (([] : List ByteArray) , ()))))
def mkB (l : List UInt8) : ByteArray := ⟨l.toArray⟩
theorem join_empty (xs : List (List UInt8)) : Go.Lib.join xs [] = xs.flatten := by
  cases xs with
  | nil => rfl
  | cons x r =>
    rw [Go.Lib.join_cons, List.flatten_cons]
    congr 1
    unfold Go.Lib.joinTail
    simp
theorem it_loop (n : Nat) : ∀ (acc : List ByteArray) (k : Nat), n < k → (nd B32 n).length ≤ 100000 → acc.length + (textParts n).length ≤ 1000000 →
    loopP P.i_nat_text_b0 k (nd B32 n, (acc, ())) = Option.bind (S.slices_Reverse__string_string (acc ++ (textParts n).map mkB, ())) (fun y6 => Option.bind (S.strings_Join (Go.Cm.splice (acc ++ (textParts n).map mkB) y6.2.1 0, (bs [], ()))) (fun y7 => some (y7.1, ()))) := by
  induction n using Nat.strongRecOn with
  | ind n ih =>
    intro acc k hk hl hacc
    obtain ⟨k, rfl⟩ : ∃ j, k = j + 1 := ⟨k - 1, by omega⟩
    rw [loopP_succ]
    unfold P.i_nat_text_b0
    dsimp only
    by_cases hn : n = 0
    · subst hn
      rw [nd_zero B32_le, textParts_zero, if_neg (by simp), List.map_nil, List.append_nil]
    · have hpos : ((nd B32 n).length : Int) > 0 := by
        rw [nd_pos B32_le hn, List.length_cons]
        omega
      rw [if_pos (decide_eq_true hpos)]
      have sd : S.i_nat_divSmall (nd B32 n, (1000000000, ())) = some ((nd B32 (n / 1000000000), ((n % 1000000000 : Nat) : Int)), ()) := by
        unfold S.i_nat_divSmall
        dsimp only
        rw [if_pos ⟨dig_nd B32_le _, by omega, by omega, by omega⟩, dval_nd B32_le]
        rfl
      rw [sd, Option.bind_some]
      dsimp only
      have hm : n % 1000000000 < 1000000000 := Nat.mod_lt _ (by decide)
      have sf : S.strconv_FormatUint (Go.IntKind.wrap Go.IntKind.u64 ((n % 1000000000 : Nat) : Int), (10, ())) = some (mkB (Go.Lib.decDigits (n % 1000000000)), ()) := by
        rw [wu (by omega) (by omega)]
        unfold S.strconv_FormatUint
        dsimp only
        rw [if_pos ⟨rfl, by omega, by omega⟩, Int.toNat_natCast]
        rfl
      rw [sf, Option.bind_some]
      dsimp only
      obtain ⟨p1, p2⟩ := dec_pad 9 (n % 1000000000) (by decide) (by rw [show (10 : Nat) ^ 9 = 1000000000 by decide]; exact hm)
      have hsz : (mkB (Go.Lib.decDigits (n % 1000000000))).size = (Go.Lib.decDigits (n % 1000000000)).length := ba_sz _
      have hsh : (nd B32 (n / 1000000000)).length ≤ 100000 := by
        refine Nat.le_trans ?_ hl
        rw [nd_len B32_le]
        exact Nat.lt_of_le_of_lt (Nat.div_le_self _ _) ((nd_len B32_le n _).1 (Nat.le_refl _))
      by_cases h1 : n / 1000000000 = 0
      · rw [textParts_one hn h1, List.length_singleton] at hacc
        have hmn : n % 1000000000 = n := by omega
        have hc : (acc.length + [mkB (Go.Lib.decDigits n)].length) * 16 ≤ 140737488355328 := by
          rw [List.length_singleton]
          omega
        have hz : ¬ (((nd B32 0).length : Int) > 0) := by rw [nd_zero B32_le]; simp
        have hi := ih 0 (by omega) (acc ++ [mkB (Go.Lib.decDigits n)]) k (by omega) (by rw [nd_zero B32_le]; simp) (by rw [textParts_zero]; simp; omega)
        rw [h1, hmn, if_neg (by simpa using hz), if_pos (decide_eq_true hc), hi, textParts_zero, textParts_one hn h1, List.map_nil, List.append_nil]
        rfl
      · rw [textParts_more h1, List.length_cons] at hacc
        have hz : ((nd B32 (n / 1000000000)).length : Int) > 0 := by
          rw [nd_pos B32_le h1, List.length_cons]
          omega
        have sr : S.strings_Repeat (bs [48], (Go.IntKind.wrap Go.IntKind.i64 (9 - (((mkB (Go.Lib.decDigits (n % 1000000000))).size : Nat) : Int)), ())) = some (mkB (List.replicate (9 - (Go.Lib.decDigits (n % 1000000000)).length) 48), ()) := by
          rw [hsz, wr (by omega) (by omega)]
          unfold S.strings_Repeat
          dsimp only
          have h48 : (bs [48]).data.toList = [48] := rfl
          rw [if_pos ⟨by omega, by omega, by decide⟩, h48, repeatL_one, show ((9 : Int) - ((Go.Lib.decDigits (n % 1000000000)).length : Int)).toNat = 9 - (Go.Lib.decDigits (n % 1000000000)).length by omega]
          rfl
        rw [if_pos (decide_eq_true hz), sr, Option.bind_some]
        dsimp only
        have hsum : (mkB (List.replicate (9 - (Go.Lib.decDigits (n % 1000000000)).length) 48)).size + (mkB (Go.Lib.decDigits (n % 1000000000))).size ≤ 9223372036854775807 := by
          rw [hsz, show (mkB (List.replicate (9 - (Go.Lib.decDigits (n % 1000000000)).length) 48)).size = _ from ba_sz _, List.length_replicate]
          omega
        have happ : mkB (List.replicate (9 - (Go.Lib.decDigits (n % 1000000000)).length) 48) ++ mkB (Go.Lib.decDigits (n % 1000000000)) = mkB (decPad 9 (n % 1000000000)) := by
          rw [← p1]
          exact ba_app _ _
        have hc : (acc.length + [mkB (decPad 9 (n % 1000000000))].length) * 16 ≤ 140737488355328 := by
          rw [List.length_singleton]
          omega
        have hi := ih (n / 1000000000) (by omega) (acc ++ [mkB (decPad 9 (n % 1000000000))]) k (by omega) hsh (by simp; omega)
        rw [if_pos (decide_eq_true hsum), happ, if_pos (decide_eq_true hc), hi, textParts_more h1, List.map_cons, List.append_assoc]
        rfl
def S.i_nat_text (x : ((List Int) × Unit)) : (Option (ByteArray × Unit)) := if canon B32 x.1 = true ∧ x.1.length ≤ 100000 then some (⟨(Go.Lib.decDigits (dval B32 x.1)).toArray⟩, ()) else none
theorem S.i_nat_text_ok (x : ((List Int) × Unit)) (r : _) (h : S.i_nat_text x = some r) : ∃ k, P.i_nat_text k x = some r := by
  obtain ⟨xs, u⟩ := x
  unfold S.i_nat_text at h
  dsimp only at h
  split at h
  case isFalse => cases h
  rename_i hc
  obtain ⟨ca, la⟩ := hc
  cases h
  refine ⟨dval B32 xs + 1, ?_⟩
  unfold P.i_nat_text
  dsimp only
  by_cases he : xs = []
  · subst he
    rw [if_pos (by rfl), show dval B32 [] = 0 from rfl, dec_small (by decide)]
    rfl
  · have hpos : 0 < xs.length := List.length_pos_iff.2 he
    have h0 : dval B32 xs ≠ 0 := by
      intro q
      have := canon_eq ca
      rw [q, nd_zero B32_le] at this
      exact he this.symm
    have hb : dval B32 xs < B32 ^ xs.length := dval_lt (canon_dig ca)
    have hb2 : dval B32 xs < (10 ^ 10) ^ xs.length := Nat.lt_of_lt_of_le hb (Nat.pow_le_pow_left (by decide) _)
    rw [← Nat.pow_mul] at hb2
    have hlen : (Go.Lib.decDigits (dval B32 xs)).length ≤ 10 * xs.length := dec_len (by omega) hb2
    have hb3 : dval B32 xs < B10 ^ (2 * xs.length) := by
      refine Nat.lt_of_lt_of_le hb ?_
      rw [Nat.pow_mul]
      exact Nat.pow_le_pow_left (by decide) _
    have hparts : (textParts (dval B32 xs)).length ≤ 2 * xs.length := by
      rw [textParts_len, nd_len B10_le]
      exact hb3
    rw [if_neg (by simp; exact he)]
    have key := it_loop (dval B32 xs) [] (dval B32 xs + 1) (by omega) (by rw [canon_eq ca]; omega) (by simp; omega)
    rw [canon_eq ca, List.nil_append] at key
    rw [key]
    have hall := textParts_all h0
    generalize textParts (dval B32 xs) = ps at *
    unfold S.slices_Reverse__string_string S.strings_Join
    dsimp only
    have hj : joinB (Go.Cm.splice (ps.map mkB) (ps.map mkB).reverse 0) (bs []) = Go.Lib.decDigits (dval B32 xs) := by
      rw [splice_all (by simp)]
      unfold joinB
      rw [show (bs []).data.toList = [] from rfl, join_empty, ← List.map_reverse, List.map_map]
      rw [show (fun x : ByteArray => x.data.toList) ∘ mkB = id by funext l; simp [mkB], List.map_id]
      exact hall
    rw [if_pos (by simp; omega), Option.bind_some]
    dsimp only
    rw [hj, if_pos ⟨by rw [splice_all (by simp)]; simp; omega, by omega⟩, Option.bind_some]
def P.i_rat_text (k : Nat) (x : ((Bool × ((List Int) × (List Int))) × Unit)) : (Option ((ByteArray × Bool) × Unit)) :=
 (Option.bind (S.i_nat_text (x.1.2.1 , ())) (fun (y0 : (ByteArray × Unit)) => (Option.bind (S.i_nat_text (x.1.2.2 , ())) (fun (y1 : (ByteArray × Unit)) => (if (x.1.1 = true) then (if ((decide (((1 : Nat) + (ByteArray.size y0.1)) ≤ (9223372036854775807 : Nat))) = true) then (if ((!((ByteArray.toList y1.1) == (ByteArray.toList (bs [49])))) = true) then (if ((decide (((1 : Nat) + (ByteArray.size y1.1)) ≤ (9223372036854775807 : Nat))) = true) then (if ((decide (((ByteArray.size ((bs [45]) ++ y0.1)) + (ByteArray.size ((bs [47]) ++ y1.1))) ≤ (9223372036854775807 : Nat))) = true) then (if ((decide ((((ByteArray.size y0.1) : Nat) : Int) ≤ (200 : Int))) = true) then (some (((((bs [45]) ++ y0.1) ++ ((bs [47]) ++ y1.1)) , (decide ((((ByteArray.size y1.1) : Nat) : Int) ≤ (200 : Int)))) , ()))
 else (some (((((bs [45]) ++ y0.1) ++ ((bs [47]) ++ y1.1)) , false) , ())))
 else none)
 else none)
 else (if ((decide ((((ByteArray.size y0.1) : Nat) : Int) ≤ (200 : Int))) = true) then (some ((((bs [45]) ++ y0.1) , (decide ((((ByteArray.size y1.1) : Nat) : Int) ≤ (200 : Int)))) , ()))
 else (some ((((bs [45]) ++ y0.1) , false) , ()))))
 else none)
 else (if ((!((ByteArray.toList y1.1) == (ByteArray.toList (bs [49])))) = true) then (if ((decide (((1 : Nat) + (ByteArray.size y1.1)) ≤ (9223372036854775807 : Nat))) = true) then (if ((decide (((ByteArray.size y0.1) + (ByteArray.size ((bs [47]) ++ y1.1))) ≤ (9223372036854775807 : Nat))) = true) then (if ((decide ((((ByteArray.size y0.1) : Nat) : Int) ≤ (200 : Int))) = true) then (some (((y0.1 ++ ((bs [47]) ++ y1.1)) , (decide ((((ByteArray.size y1.1) : Nat) : Int) ≤ (200 : Int)))) , ()))
 else (some (((y0.1 ++ ((bs [47]) ++ y1.1)) , false) , ())))
 else none)
 else none)
 else (if ((decide ((((ByteArray.size y0.1) : Nat) : Int) ≤ (200 : Int))) = true) then (some ((y0.1 , (decide ((((ByteArray.size y1.1) : Nat) : Int) ≤ (200 : Int)))) , ()))
 else (some ((y0.1 , false) , ())))))))))
def S.i_rat_text (x : ((Bool × ((List Int) × (List Int))) × Unit)) : (Option ((ByteArray × Bool) × Unit)) := if rok B32 100000 x.1 = true then some ((⟨(ratTx (rv B32 x.1)).toArray⟩, fitN (rv B32 x.1)), ()) else none
theorem S.i_rat_text_ok (x : ((Bool × ((List Int) × (List Int))) × Unit)) (r : _) (h : S.i_rat_text x = some r) : ∃ k, P.i_rat_text k x = some r := by
  obtain ⟨⟨neg, as, bs'⟩, u⟩ := x
  unfold S.i_rat_text at h
  dsimp only at h
  split at h
  case isFalse => cases h
  rename_i hc
  rw [rok_iff] at hc
  obtain ⟨ca, cb, la, lb⟩ := hc
  dsimp only at ca cb la lb
  cases h
  refine ⟨0, ?_⟩
  unfold P.i_rat_text
  dsimp only
  have e1 : ∀ xs, canon B32 xs = true → xs.length ≤ 100000 → S.i_nat_text (xs, ()) = some (⟨(Go.Lib.decDigits (dval B32 xs)).toArray⟩, ()) := by
    intro xs cx lx
    unfold S.i_nat_text
    exact if_pos ⟨cx, lx⟩
  rw [e1 as ca la, Option.bind_some, e1 bs' cb lb, Option.bind_some]
  dsimp only
  have l1 := canon_dec (show B32 ≤ 10 ^ 10 by decide) ca
  have l2 := canon_dec (show B32 ≤ 10 ^ 10 by decide) cb
  unfold rv ratTx fitN
  dsimp only
  have hd1 := dec_one (dval B32 bs')
  generalize Go.Lib.decDigits (dval B32 as) = t1 at *
  generalize Go.Lib.decDigits (dval B32 bs') = t2 at *
  rw [ByteArray.toList_eq, ByteArray.toList_eq, show bs [49] = ⟨([49] : List UInt8).toArray⟩ from rfl, show bs [45] = ⟨([45] : List UInt8).toArray⟩ from rfl, show bs [47] = ⟨([47] : List UInt8).toArray⟩ from rfl]
  rw [ba_app, ba_app, ba_app, ba_app, ba_sz, ba_sz, ba_sz, ba_sz]
  have c1 : (1 + t1.length ≤ 9223372036854775807) := by omega
  have c2 : (1 + t2.length ≤ 9223372036854775807) := by omega
  have c3 : ([45] ++ t1).length + ([47] ++ t2).length ≤ 9223372036854775807 := by simp; omega
  have c4 : t1.length + ([47] ++ t2).length ≤ 9223372036854775807 := by simp; omega
  simp only [c1, c2, c3, c4, decide_true, if_true]
  have d1 : ∀ t : List UInt8, decide (((t.length : Nat) : Int) ≤ 200) = decide (t.length ≤ 200) := by
    intro t
    rw [decide_eq_decide]
    omega
  rw [d1, d1]
  have d2 : ((!(t2 == [49])) = true) ↔ ¬ dval B32 bs' = 1 := by
    rw [← hd1]
    simp
  by_cases hq : dval B32 bs' = 1
  · have n2 : ¬ ((!(t2 == [49])) = true) := by rw [d2]; exact fun q => q hq
    cases neg <;> simp only [n2, hq, if_true, if_false, Bool.false_eq_true, List.append_nil, List.nil_append] <;> cases decide (t1.length ≤ 200) <;> simp
  · have n2 : ((!(t2 == [49])) = true) := d2.2 hq
    cases neg <;> simp only [n2, hq, if_true, if_false, Bool.false_eq_true, List.nil_append] <;> cases decide (t1.length ≤ 200) <;> simp
def P.i_told (k : Nat) (x : ((Bool × ((List Int) × (List Int))) × Unit)) : (Option ((ByteArray × Bool) × Unit)) :=
 (Option.bind (S.i_rat_text ((x.1.1 , (x.1.2.1 , x.1.2.2)) , ())) (fun (y0 : ((ByteArray × Bool) × Unit)) => (if ((!y0.1.2) = true) then (some (((bs []) , false) , ()))
 else (some ((y0.1.1 , true) , ())))))
def S.i_told (x : ((Bool × ((List Int) × (List Int))) × Unit)) : (Option ((ByteArray × Bool) × Unit)) := if rok B32 100000 x.1 = true then some (giveN (rv B32 x.1), ()) else none
theorem S.i_told_ok (x : ((Bool × ((List Int) × (List Int))) × Unit)) (r : _) (h : S.i_told x = some r) : ∃ k, P.i_told k x = some r := by
  obtain ⟨⟨neg, as, bs'⟩, u⟩ := x
  unfold S.i_told at h
  dsimp only at h
  split at h
  case isFalse => cases h
  rename_i hc
  cases h
  refine ⟨0, ?_⟩
  unfold P.i_told S.i_rat_text
  dsimp only
  rw [if_pos hc, Option.bind_some]
  unfold giveN
  dsimp only
  cases fitN (rv B32 (neg, (as, bs'))) <;> simp
theorem ri_told {x : Q3} {m : Nat} (bx : below m x) (hm : m ≤ 800000) : S.i_told (rp B32 x, ()) = some (giveN x, ()) := by
  unfold S.i_told
  dsimp only
  rw [if_pos (below_rok9 (by decide) bx (by omega)), rv_rp B32_le]
def P.i_magnitude (k : Nat) (x : (Int × Unit)) : (Option (Int × Unit)) :=
 (if ((decide (x.1 < (0 : Int))) = true) then (some ((Go.IntKind.wrap Go.IntKind.u64 ((0 : Int) - (Go.IntKind.wrap Go.IntKind.u64 x.1))) , ()))
 else (some ((Go.IntKind.wrap Go.IntKind.u64 x.1) , ())))
def S.i_magnitude (x : (Int × Unit)) : (Option (Int × Unit)) := if -9223372036854775808 ≤ x.1 ∧ x.1 ≤ 9223372036854775807 then some (((x.1.natAbs : Nat) : Int), ()) else none
theorem S.i_magnitude_ok (x : (Int × Unit)) (r : _) (h : S.i_magnitude x = some r) : ∃ k, P.i_magnitude k x = some r := by
  obtain ⟨n, u⟩ := x
  unfold S.i_magnitude at h
  dsimp only at h
  split at h
  case isFalse => cases h
  rename_i hc
  cases h
  refine ⟨0, ?_⟩
  unfold P.i_magnitude
  dsimp only
  have hw : ∀ y : Int, Go.IntKind.wrap Go.IntKind.u64 y = y % 18446744073709551616 := fun _ => rfl
  rw [hw, hw]
  by_cases h0 : n < 0
  · rw [if_pos (decide_eq_true h0)]
    congr 2
    omega
  · rw [if_neg (by simpa using h0)]
    congr 2
    omega
def P.i_natOf (k : Nat) (x : (Int × Unit)) : (Option ((List Int) × Unit)) :=
 (Option.bind (S.i_nat_trim (((Go.IntKind.wrap Go.IntKind.u32 x.1) :: ((Go.IntKind.wrap Go.IntKind.u32 (Int.fdiv x.1 (4294967296 : Int))) :: ([] : List Int))) , ())) (fun (y0 : ((List Int) × Unit)) => (some (y0.1 , ()))))
def S.i_natOf (x : (Int × Unit)) : (Option ((List Int) × Unit)) := if 0 ≤ x.1 ∧ x.1 < 18446744073709551616 then some (nd B32 x.1.toNat, ()) else none
theorem S.i_natOf_ok (x : (Int × Unit)) (r : _) (h : S.i_natOf x = some r) : ∃ k, P.i_natOf k x = some r := by
  obtain ⟨n, u⟩ := x
  unfold S.i_natOf at h
  dsimp only at h
  split at h
  case isFalse => cases h
  rename_i hc
  cases h
  refine ⟨0, ?_⟩
  unfold P.i_natOf
  dsimp only
  have hf : Int.fdiv n 4294967296 = n / 4294967296 := Int.fdiv_eq_ediv_of_nonneg _ (by omega)
  rw [hf, u32_mod n hc.1, u32_mod _ (by omega)]
  have hd : dig B32 [n % 4294967296, n / 4294967296 % 4294967296] = true := by
    rw [dig_cons, dig_cons]
    refine ⟨⟨by omega, ?_⟩, ⟨by omega, ?_⟩, rfl⟩
    · show _ < (4294967296 : Int); omega
    · show _ < (4294967296 : Int); omega
  rw [trim_i _ hd (by simp), Option.bind_some]
  have : dval B32 [n % 4294967296, n / 4294967296 % 4294967296] = n.toNat := by
    simp only [dval]
    show (n % 4294967296).toNat + 4294967296 * ((n / 4294967296 % 4294967296).toNat + 4294967296 * 0) = n.toNat
    omega
  rw [this]
def P.i_whole (k : Nat) (x : (Int × Unit)) : (Option ((Bool × ((List Int) × (List Int))) × Unit)) :=
 (Option.bind (S.i_magnitude (x.1 , ())) (fun (y0 : (Int × Unit)) => (Option.bind (S.i_natOf (y0.1 , ())) (fun (y1 : ((List Int) × Unit)) => (Option.bind (S.i_natOf ((1 : Int) , ())) (fun (y2 : ((List Int) × Unit)) => (some (((decide (x.1 < (0 : Int))) , (y1.1 , y2.1)) , ()))))))))
def S.i_whole (x : (Int × Unit)) : (Option ((Bool × ((List Int) × (List Int))) × Unit)) := if -9223372036854775808 ≤ x.1 ∧ x.1 ≤ 9223372036854775807 then some (rp B32 (wholeQ x.1), ()) else none
theorem S.i_whole_ok (x : (Int × Unit)) (r : _) (h : S.i_whole x = some r) : ∃ k, P.i_whole k x = some r := by
  obtain ⟨n, u⟩ := x
  unfold S.i_whole at h
  dsimp only at h
  split at h
  case isFalse => cases h
  rename_i hc
  cases h
  refine ⟨0, ?_⟩
  unfold P.i_whole S.i_magnitude S.i_natOf
  dsimp only
  rw [if_pos hc, Option.bind_some]
  dsimp only
  rw [if_pos ⟨by omega, by omega⟩, Option.bind_some, Int.toNat_natCast, if_pos ⟨by decide, by decide⟩, Option.bind_some]
  rfl
theorem ri_whole {n : Int} (h0 : -1000000000 ≤ n) (h1 : n ≤ 1000000000) : S.i_whole (n, ()) = some (rp B32 (wholeQ n), ()) := by
  unfold S.i_whole
  exact if_pos ⟨by dsimp only; omega, by dsimp only; omega⟩
abbrev P.i_nat_cmp_b0  (x1 : (Int × ((List Int) × ((List Int) × Unit)))) (g2 : (Int × ((List Int) × ((List Int) × Unit))) → Option (Int × Unit)) : Option (Int × Unit) :=
 (if ((decide (x1.1 ≥ (0 : Int))) = true) then (if ((decide ((0 : Int) ≤ x1.1)) = true) then (if ((decide (x1.1 < (((List.length x1.2.1) : Nat) : Int))) = true) then (if ((decide ((0 : Int) ≤ x1.1)) = true) then (if ((decide (x1.1 < (((List.length x1.2.2.1) : Nat) : Int))) = true) then (if (((List.getD x1.2.1 (Int.toNat x1.1) (0 : Int)) != (List.getD x1.2.2.1 (Int.toNat x1.1) (0 : Int))) = true) then (if ((decide ((0 : Int) ≤ x1.1)) = true) then (if ((decide (x1.1 < (((List.length x1.2.1) : Nat) : Int))) = true) then (if ((decide ((0 : Int) ≤ x1.1)) = true) then (if ((decide (x1.1 < (((List.length x1.2.2.1) : Nat) : Int))) = true) then (if ((decide ((List.getD x1.2.1 (Int.toNat x1.1) (0 : Int)) < (List.getD x1.2.2.1 (Int.toNat x1.1) (0 : Int)))) = true) then (some ((-1 : Int) , ()))
 else (some ((1 : Int) , ())))
 else none)
 else none)
 else none)
 else none)
 else (g2 ((Go.IntKind.wrap Go.IntKind.i64 (x1.1 - (1 : Int))) , (x1.2.1 , (x1.2.2.1 , ())))))
 else none)
 else none)
 else none)
 else none)
 else (some ((0 : Int) , ())))
def P.i_nat_cmp (k : Nat) (x : ((List Int) × ((List Int) × Unit))) : (Option (Int × Unit)) :=
 (if (((((List.length x.1) : Nat) : Int) != (((List.length x.2.1) : Nat) : Int)) = true) then (if ((decide ((((List.length x.1) : Nat) : Int) < (((List.length x.2.1) : Nat) : Int))) = true) then (some ((-1 : Int) , ()))
 else (some ((1 : Int) , ())))
 else (loopP (X := (Int × ((List Int) × ((List Int) × Unit)))) (R := (Int × Unit)) (P.i_nat_cmp_b0 ) k ((Go.IntKind.wrap Go.IntKind.i64 ((((List.length x.1) : Nat) : Int) - (1 : Int))) , (x.1 , (x.2.1 , ())))))
def S.i_nat_cmp (x : ((List Int) × ((List Int) × Unit))) : (Option (Int × Unit)) := if canon B32 x.1 = true ∧ canon B32 x.2.1 = true ∧ x.1.length ≤ 1000000000000 then some (cmpN (dval B32 x.1) (dval B32 x.2.1), ()) else none
theorem S.i_nat_cmp_ok (x : ((List Int) × ((List Int) × Unit))) (r : _) (h : S.i_nat_cmp x = some r) : ∃ k, P.i_nat_cmp k x = some r := by
  obtain ⟨xs, ys, u⟩ := x
  unfold S.i_nat_cmp at h
  dsimp only at h
  split at h
  case isFalse => cases h
  rename_i hc
  obtain ⟨cx, cy, hl⟩ := hc
  cases h
  refine ⟨xs.length + 1, ?_⟩
  unfold P.i_nat_cmp
  dsimp only
  by_cases hn : xs.length = ys.length
  · rw [if_neg (by simp [hn]), wr (by omega) (by omega)]
    have key := loop_up0 (k := xs.length + 1) (b := P.i_nat_cmp_b0) (n := xs.length) (st := fun j => ((xs.length : Int) - 1 - (j : Int), xs, ys, ())) (F := fun j => some (cmpN (dval B32 (xs.take (xs.length - j))) (dval B32 (ys.take (xs.length - j))), ())) (fun j g hj hg => by
      unfold P.i_nat_cmp_b0
      dsimp only at hg ⊢
      have e1 : (xs.length : Int) - 1 - (j : Int) ≥ 0 := by omega
      have e3 : (0 : Int) ≤ (xs.length : Int) - 1 - (j : Int) := by omega
      have e4 : (xs.length : Int) - 1 - (j : Int) < (xs.length : Int) := by omega
      have e4' : (xs.length : Int) - 1 - (j : Int) < (ys.length : Int) := by omega
      simp only [e1, e4, e4', decide_true, if_true]
      have hi : xs.length - (j + 1) < xs.length := by omega
      have hi' : xs.length - (j + 1) < ys.length := by omega
      have e5 : (xs.length : Int) - 1 - (j : Int) = ((xs.length - (j + 1) : Nat) : Int) := by omega
      have e6 : xs.length - j = (xs.length - (j + 1)) + 1 := by omega
      rw [e5, getD_cast xs _ _ hi, getD_cast ys _ _ hi', e6]
      generalize xs.length - (j + 1) = i at *
      by_cases hq : xs[i] = ys[i]
      · rw [if_neg (by simp [hq]), wr (by omega) (by omega)]
        have e7 : ((i : Nat) : Int) - 1 = (xs.length : Int) - 1 - ((j + 1 : Nat) : Int) := by omega
        rw [e7, hg, ← List.take_append_getElem hi, ← List.take_append_getElem hi', dval_append, dval_append, hq]
        have hlx : (xs.take i).length = i := by simp; omega
        have hly : (ys.take i).length = i := by simp; omega
        rw [hlx, hly]
        unfold cmpN
        simp only [Nat.add_lt_add_iff_right]
      · rw [if_pos (by simp [hq])]
        by_cases hlt : xs[i] < ys[i]
        · have := dval_top xs ys i hi hi' (canon_dig cx) (canon_dig cy) hlt
          rw [if_pos (decide_eq_true hlt), cmpN, if_pos this]
        · have := dval_top ys xs i hi' hi (canon_dig cy) (canon_dig cx) (by omega)
          rw [if_neg (by simpa using hlt), cmpN, if_neg (by omega), if_pos this]) (fun g => by
      unfold P.i_nat_cmp_b0
      dsimp only
      rw [if_neg (by simp; omega), Nat.sub_self, List.take_zero, List.take_zero]
      rfl) (by omega)
    rw [show (xs.length : Int) - 1 - ((0 : Nat) : Int) = (xs.length : Int) - 1 by omega, Nat.sub_zero, List.take_length, List.take_of_length_le (by omega)] at key
    exact key
  · rw [if_pos (by simp; omega)]
    by_cases hlt : xs.length < ys.length
    · rw [if_pos (decide_eq_true (by omega)), cmpN, if_pos (canon_small B32_le cx cy hlt)]
    · have := canon_small B32_le cy cx (by omega)
      rw [if_neg (by simp; omega), cmpN, if_neg (by omega), if_pos this]
end Go.Cm
end
