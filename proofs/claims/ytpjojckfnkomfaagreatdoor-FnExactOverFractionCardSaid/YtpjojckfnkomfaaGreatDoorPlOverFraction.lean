import Derived.Test.YtpjojckfnkomfaaGreatDoorPlOverFractionb
set_option linter.unusedVariables false
set_option maxRecDepth 100000
noncomputable section
namespace Go.Cm
def P.s_l01Make (k : Nat) (x : (Bool × ((List Int) × ((List Int) × Unit)))) : (Option ((Bool × ((List Int) × (List Int))) × Unit)) :=
 (Option.bind (S.s_l01Gcd (x.2.1 , (x.2.2.1 , ()))) (fun (y0 : ((List Int) × Unit)) => (Option.bind (S.s_l01Cmp (y0.1 , (((1 : Int) :: ([] : List Int)) , ()))) (fun (y1 : (Int × Unit)) => (if ((y1.1 != (0 : Int)) = true) then (Option.bind (S.s_l01NatDiv (x.2.1 , (y0.1 , ()))) (fun (y2 : (((List Int) × (List Int)) × Unit)) => (Option.bind (S.s_l01NatDiv (x.2.2.1 , (y0.1 , ()))) (fun (y3 : (((List Int) × (List Int)) × Unit)) => (if (x.1 = true) then (some (((decide ((((List.length y2.1.1) : Nat) : Int) > (0 : Int))) , (y2.1.1 , y3.1.1)) , ()))
 else (some ((false , (y2.1.1 , y3.1.1)) , ())))))))
 else (if (x.1 = true) then (some (((decide ((((List.length x.2.1) : Nat) : Int) > (0 : Int))) , (x.2.1 , x.2.2.1)) , ()))
 else (some ((false , (x.2.1 , x.2.2.1)) , ()))))))))
def S.s_l01Make (x : (Bool × ((List Int) × ((List Int) × Unit)))) : (Option ((Bool × ((List Int) × (List Int))) × Unit)) := if canon B10 x.2.1 = true ∧ canon B10 x.2.2.1 = true ∧ x.2.2.1 ≠ [] ∧ x.2.1.length ≤ 10000000000 ∧ x.2.2.1.length ≤ 10000000000 then some (rp B10 (lowN x.1 (dval B10 x.2.1) (dval B10 x.2.2.1)), ()) else none
theorem S.s_l01Make_ok (x : (Bool × ((List Int) × ((List Int) × Unit)))) (r : _) (h : S.s_l01Make x = some r) : ∃ k, P.s_l01Make k x = some r := by
  obtain ⟨neg, as, bs', u⟩ := x
  unfold S.s_l01Make at h
  dsimp only at h
  split at h
  case isFalse => cases h
  rename_i hc
  obtain ⟨ca, cb, hne, la, lb⟩ := hc
  cases h
  refine ⟨0, ?_⟩
  unfold P.s_l01Make
  dsimp only
  have hb0 : dval B10 bs' ≠ 0 := fun e => hne ((canon_nil B10_le cb).2 e)
  have hg := gcd_len B10_le ca cb hb0
  have hgp : 0 < Nat.gcd (dval B10 as) (dval B10 bs') := Nat.gcd_pos_of_pos_right _ (by omega)
  have e1 : S.s_l01Gcd (as, (bs', ())) = some (nd B10 (Nat.gcd (dval B10 as) (dval B10 bs')), ()) := by
    unfold S.s_l01Gcd
    exact if_pos ⟨ca, cb, la, lb⟩
  rw [e1, Option.bind_some]
  dsimp only
  unfold lowN rp
  dsimp only
  have hgne : nd B10 (Nat.gcd (dval B10 as) (dval B10 bs')) ≠ [] := by
    rw [nd_pos B10_le (by omega)]
    simp
  have hgd : dval B10 (nd B10 (Nat.gcd (dval B10 as) (dval B10 bs'))) = Nat.gcd (dval B10 as) (dval B10 bs') := dval_nd B10_le _
  have hgc : canon B10 (nd B10 (Nat.gcd (dval B10 as) (dval B10 bs'))) = true := canon_nd B10_le _
  have e2 : ∀ xs, canon B10 xs = true → xs.length ≤ 10000000000 → S.s_l01NatDiv (xs, (nd B10 (Nat.gcd (dval B10 as) (dval B10 bs')), ())) = some ((nd B10 (dval B10 xs / Nat.gcd (dval B10 as) (dval B10 bs')), nd B10 (dval B10 xs % Nat.gcd (dval B10 as) (dval B10 bs'))), ()) := by
    intro xs cx lx
    unfold S.s_l01NatDiv
    dsimp only
    rw [if_pos ⟨cx, hgc, hgne, lx, by omega⟩, hgd]
  have e3 : S.s_l01Cmp (nd B10 (Nat.gcd (dval B10 as) (dval B10 bs')), ([1], ())) = some (cmpN (Nat.gcd (dval B10 as) (dval B10 bs')) 1, ()) := by
    unfold S.s_l01Cmp
    dsimp only
    rw [if_pos ⟨hgc, canon_one B10_le, by omega⟩, hgd, dval_one]
  rw [e3, Option.bind_some, e2 as ca la, Option.bind_some, e2 bs' cb lb, Option.bind_some]
  dsimp only
  have hpos : ∀ xs : List Int, canon B10 xs = true → (decide (((xs.length : Nat) : Int) > 0)) = decide (dval B10 xs ≠ 0) := by
    intro xs cx
    have := canon_nil B10_le cx
    rw [decide_eq_decide]
    constructor
    · intro h e
      rw [this.2 e] at h
      simp at h
    · intro h
      have : 0 < xs.length := List.length_pos_iff.2 (fun e => h (this.1 e))
      omega
  have hp2 : decide (dval B10 as / Nat.gcd (dval B10 as) (dval B10 bs') ≠ 0) = decide (dval B10 as ≠ 0) := by
    rw [decide_eq_decide]
    have hdv : Nat.gcd (dval B10 as) (dval B10 bs') ∣ dval B10 as := Nat.gcd_dvd_left _ _
    constructor
    · intro h e
      rw [e, Nat.zero_div] at h
      exact h rfl
    · intro h e
      have := Nat.div_pos (Nat.le_of_dvd (by omega) hdv) hgp
      omega
  rw [hpos _ (canon_nd B10_le _), hpos as ca, dval_nd B10_le, hp2]
  by_cases h1 : Nat.gcd (dval B10 as) (dval B10 bs') = 1
  · rw [if_neg (by simpa using cmpN_zero.2 h1), h1, Nat.div_one, Nat.div_one, canon_eq ca, canon_eq cb]
    cases neg <;> simp
  · rw [if_pos (by simpa using fun q => h1 (cmpN_zero.1 q))]
    cases neg <;> simp
def P.s_l01Over (k : Nat) (x : ((Bool × ((List Int) × (List Int))) × ((Bool × ((List Int) × (List Int))) × Unit))) : (Option ((Bool × ((List Int) × (List Int))) × Unit)) :=
 (Option.bind (S.s_l01NatMul (x.1.2.1 , (x.2.1.2.2 , ()))) (fun (y0 : ((List Int) × Unit)) => (Option.bind (S.s_l01NatMul (x.1.2.2 , (x.2.1.2.1 , ()))) (fun (y1 : ((List Int) × Unit)) => (Option.bind (S.s_l01Make ((!(x.1.1 == x.2.1.1)) , (y0.1 , (y1.1 , ())))) (fun (y2 : ((Bool × ((List Int) × (List Int))) × Unit)) => (some ((y2.1.1 , (y2.1.2.1 , y2.1.2.2)) , ()))))))))
def S.s_l01Over (x : ((Bool × ((List Int) × (List Int))) × ((Bool × ((List Int) × (List Int))) × Unit))) : (Option ((Bool × ((List Int) × (List Int))) × Unit)) := if lowb B10 100000 x.1 = true ∧ lowb B10 100000 x.2.1 = true ∧ (rv B10 x.2.1).2.1 ≠ 0 then some (rp B10 (overQ (rv B10 x.1) (rv B10 x.2.1)), ()) else none
theorem S.s_l01Over_ok (x : ((Bool × ((List Int) × (List Int))) × ((Bool × ((List Int) × (List Int))) × Unit))) (r : _) (h : S.s_l01Over x = some r) : ∃ k, P.s_l01Over k x = some r := by
  obtain ⟨x, y, u⟩ := x
  unfold S.s_l01Over at h
  dsimp only at h
  split at h
  case isFalse => cases h
  rename_i hc
  obtain ⟨hx, hy, h0⟩ := hc
  cases h
  rw [lowb_iff] at hx hy
  obtain ⟨hx, lx⟩ := hx
  obtain ⟨hy, ly⟩ := hy
  obtain ⟨n1, p1, q1, rfl, x1, x2⟩ := rok_nd hx
  obtain ⟨n2, p2, q2, rfl, y1, y2⟩ := rok_nd hy
  rw [rv_nd B10_le] at lx ly h0 ⊢
  rw [rv_nd B10_le]
  have hq1 : 0 < q1 := lx.1
  have hq2 : 0 < p2 := Nat.pos_of_ne_zero h0
  have m1 := nd_mul_len B10_le p1 q2
  have m2 := nd_mul_len B10_le q1 p2
  have mul : ∀ p q : Nat, (nd B10 p).length ≤ 1000000 → (nd B10 q).length ≤ 1000000 → S.s_l01NatMul (nd B10 p, (nd B10 q, ())) = some (nd B10 (p * q), ()) := by
    intro p q hp hq
    unfold S.s_l01NatMul
    dsimp only
    rw [if_pos ⟨dig_nd B10_le _, dig_nd B10_le _, by omega, by omega⟩, dval_nd B10_le, dval_nd B10_le]
  refine ⟨0, ?_⟩
  unfold P.s_l01Over overQ
  dsimp only
  rw [mul p1 q2 (by omega) (by omega), Option.bind_some, mul q1 p2 (by omega) (by omega), Option.bind_some]
  unfold S.s_l01Make
  dsimp only
  rw [if_pos ⟨canon_nd B10_le _, canon_nd B10_le _, nd_ne B10_le (Nat.ne_of_gt (Nat.mul_pos hq1 hq2)), by omega, by omega⟩, Option.bind_some, dval_nd B10_le, dval_nd B10_le]
  rfl
abbrev P.s_l01Cut_b0  (x1 : (Int × (ByteArray × (Int × ((List ByteArray) × (Int × Unit)))))) (g2 : (Int × (ByteArray × (Int × ((List ByteArray) × (Int × Unit))))) → Option ((List ByteArray) × Unit)) : Option ((List ByteArray) × Unit) :=
 (if ((decide (x1.1 ≤ (((ByteArray.size x1.2.1) : Nat) : Int))) = true) then (if ((x1.1 == (((ByteArray.size x1.2.1) : Nat) : Int)) = true) then (if ((decide ((0 : Int) ≤ x1.1)) = true) then (if ((decide (x1.1 ≤ (((ByteArray.size x1.2.1) : Nat) : Int))) = true) then (if ((decide ((0 : Int) ≤ x1.2.2.2.2.1)) = true) then (if ((decide (x1.2.2.2.2.1 ≤ x1.1)) = true) then (if ((decide ((((List.length x1.2.2.2.1) + (List.length ((ByteArray.extract x1.2.1 (Int.toNat x1.2.2.2.2.1) (Int.toNat x1.1)) :: ([] : List ByteArray)))) * (16 : Nat)) ≤ (140737488355328 : Nat))) = true) then (g2 ((Go.IntKind.wrap Go.IntKind.i64 (x1.1 + (1 : Int))) , (x1.2.1 , (x1.2.2.1 , ((x1.2.2.2.1 ++ ((ByteArray.extract x1.2.1 (Int.toNat x1.2.2.2.2.1) (Int.toNat x1.1)) :: ([] : List ByteArray))) , ((Go.IntKind.wrap Go.IntKind.i64 (x1.1 + (1 : Int))) , ()))))))
 else none)
 else none)
 else none)
 else none)
 else none)
 else (if ((decide ((0 : Int) ≤ x1.1)) = true) then (if ((decide (x1.1 < (((ByteArray.size x1.2.1) : Nat) : Int))) = true) then (if (((byteAt x1.2.1 x1.1) == x1.2.2.1) = true) then (if ((decide ((0 : Int) ≤ x1.1)) = true) then (if ((decide (x1.1 ≤ (((ByteArray.size x1.2.1) : Nat) : Int))) = true) then (if ((decide ((0 : Int) ≤ x1.2.2.2.2.1)) = true) then (if ((decide (x1.2.2.2.2.1 ≤ x1.1)) = true) then (if ((decide ((((List.length x1.2.2.2.1) + (List.length ((ByteArray.extract x1.2.1 (Int.toNat x1.2.2.2.2.1) (Int.toNat x1.1)) :: ([] : List ByteArray)))) * (16 : Nat)) ≤ (140737488355328 : Nat))) = true) then (g2 ((Go.IntKind.wrap Go.IntKind.i64 (x1.1 + (1 : Int))) , (x1.2.1 , (x1.2.2.1 , ((x1.2.2.2.1 ++ ((ByteArray.extract x1.2.1 (Int.toNat x1.2.2.2.2.1) (Int.toNat x1.1)) :: ([] : List ByteArray))) , ((Go.IntKind.wrap Go.IntKind.i64 (x1.1 + (1 : Int))) , ()))))))
 else none)
 else none)
 else none)
 else none)
 else none)
 else (g2 ((Go.IntKind.wrap Go.IntKind.i64 (x1.1 + (1 : Int))) , (x1.2.1 , (x1.2.2.1 , (x1.2.2.2.1 , (x1.2.2.2.2.1 , ())))))))
 else none)
 else none))
 else (some (x1.2.2.2.1 , ())))
def P.s_l01Cut (k : Nat) (x : (ByteArray × (Int × Unit))) : (Option ((List ByteArray) × Unit)) :=
 (loopP (X := (Int × (ByteArray × (Int × ((List ByteArray) × (Int × Unit)))))) (R := ((List ByteArray) × Unit)) (P.s_l01Cut_b0 ) k ((0 : Int) , (x.1 , (x.2.1 , (([] : List ByteArray) , ((0 : Int) , ()))))))
/-- What a loop that cuts at c has laid aside before i, and where the next part begins. -/
def cutUp (s : ByteArray) (c : Int) : Nat → List ByteArray × Nat
  | 0 => ([], 0)
  | i + 1 => if i = s.size ∨ byteAt s (i : Int) = c then ((cutUp s c i).1 ++ [s.extract (cutUp s c i).2 i], i + 1) else cutUp s c i
theorem cutUp_le (s : ByteArray) (c : Int) (i : Nat) : (cutUp s c i).1.length ≤ i ∧ (cutUp s c i).2 ≤ i := by
  induction i with
  | zero => exact ⟨Nat.le_refl _, Nat.le_refl _⟩
  | succ i ih =>
    unfold cutUp
    split
    · refine ⟨?_, Nat.le_refl _⟩
      simp
      omega
    · omega
def S.s_l01Cut (x : (ByteArray × (Int × Unit))) : (Option ((List ByteArray) × Unit)) := if x.1.size ≤ 1000000 then some ((cutUp x.1 x.2.1 (x.1.size + 1)).1, ()) else none
theorem S.s_l01Cut_ok (x : (ByteArray × (Int × Unit))) (r : _) (h : S.s_l01Cut x = some r) : ∃ k, P.s_l01Cut k x = some r := by
  obtain ⟨s, c, u⟩ := x
  unfold S.s_l01Cut at h
  dsimp only at h
  split at h
  case isFalse => cases h
  rename_i hs
  cases h
  refine ⟨s.size + 2, ?_⟩
  unfold P.s_l01Cut
  dsimp only
  have key := loop_up0 (k := s.size + 2) (b := P.s_l01Cut_b0) (n := s.size + 1) (st := fun i => ((i : Int), s, c, (cutUp s c i).1, ((cutUp s c i).2 : Int), ())) (F := fun i => some ((cutUp s c (s.size + 1)).1, ())) (fun i g hi hg => by
    unfold P.s_l01Cut_b0
    dsimp only at hg ⊢
    obtain ⟨q1, q2⟩ := cutUp_le s c i
    have e1 : (i : Int) ≤ (s.size : Int) := by omega
    have e2 : (0 : Int) ≤ (i : Int) := by omega
    have e3 : (0 : Int) ≤ ((cutUp s c i).2 : Int) := by omega
    have e4 : ((cutUp s c i).2 : Int) ≤ (i : Int) := by omega
    have e5 : ((cutUp s c i).1.length + ([s.extract (cutUp s c i).2 i] : List ByteArray).length) * 16 ≤ 140737488355328 := by simp; omega
    rw [cutUp] at hg
    by_cases hq : i = s.size
    · rw [if_pos (.inl hq)] at hg
      rw [← hg]
      have e6 : ((i : Int) == (s.size : Int)) = true := by simp [hq]
      simp only [e1, e2, e3, e4, e6, decide_true, if_true, Int.toNat_natCast]
      rw [if_pos (decide_eq_true e5), wr (by omega) (by omega)]
      rfl
    · have e6 : ¬ ((i : Int) == (s.size : Int)) = true := by simp; omega
      have e7 : (i : Int) < (s.size : Int) := by omega
      rw [if_pos (decide_eq_true e1), if_neg e6, if_pos (decide_eq_true e2), if_pos (decide_eq_true e7)]
      by_cases hb : byteAt s (i : Int) = c
      · rw [if_pos (.inr hb)] at hg
        rw [← hg, if_pos (by simp [hb])]
        simp only [e1, e2, e3, e4, decide_true, if_true, Int.toNat_natCast]
        rw [if_pos (decide_eq_true e5), wr (by omega) (by omega)]
        rfl
      · rw [if_neg (fun z => z.elim hq hb)] at hg
        rw [← hg, if_neg (by simp [hb]), wr (by omega) (by omega)]
        rfl) (fun g => by
    unfold P.s_l01Cut_b0
    dsimp only
    rw [if_neg (by simp; omega)]) (by omega)
  exact key
theorem cutUp_pieces (s : ByteArray) (c : UInt8) : (cutUp s (c.toNat : Int) (s.size + 1)).1.map (·.data.toList) = pieces c s.data.toList := by
  have hsz : s.size = s.data.toList.length := by rw [Array.length_toList]; rfl
  have hex : ∀ a b, (s.extract a b).data.toList = (s.data.toList.take b).drop a := by
    intro a b
    simp [ByteArray.data_extract, Array.toList_extract, List.extract_eq_take_drop, List.drop_take]
  have key : ∀ i, i ≤ s.size → pieces c s.data.toList = (cutUp s (c.toNat : Int) i).1.map (·.data.toList) ++ glue ((s.data.toList.take i).drop (cutUp s (c.toNat : Int) i).2) (pieces c (s.data.toList.drop i)) := by
    intro i
    induction i with
    | zero =>
      intro _
      simp [cutUp, glue_nil (pieces_ne c _)]
    | succ i ih =>
      intro hi
      rw [ih (by omega)]
      obtain ⟨q1, q2⟩ := cutUp_le s (c.toNat : Int) i
      have hi' : i < s.data.toList.length := by omega
      have hb : byteAt s (i : Int) = (s.data.toList[i].toNat : Int) := by
        unfold byteAt
        rw [getD_cast _ i _ hi']
      rw [List.drop_eq_getElem_cons hi', cutUp, pieces]
      by_cases hc : s.data.toList[i] = c
      · rw [if_pos hc, if_pos (.inr (by rw [hb, hc]))]
        simp only [List.map_append, List.map_cons, List.map_nil, hex, List.append_assoc]
        congr 1
        rw [show List.drop (i + 1) (List.take (i + 1) s.data.toList) = [] from List.drop_eq_nil_of_le (by simp; omega), glue_nil (pieces_ne c _)]
        simp [glue]
      · rw [if_neg hc, if_neg (by
          rw [hb]
          rintro (h | h)
          · omega
          · exact hc (UInt8.toNat_inj.1 (by omega)))]
        rw [glue_glue, ← List.take_append_getElem hi', List.drop_append_of_le_length (by simp; omega)]
  have h := key s.size (Nat.le_refl _)
  rw [h, cutUp, if_pos (.inl rfl)]
  simp only [List.map_append, List.map_cons, List.map_nil, hex]
  congr 1
  rw [show List.drop s.size s.data.toList = [] from List.drop_eq_nil_of_le (by omega)]
  simp [pieces, glue]
abbrev P.s_l01NatRead_b3 (g2 : ((Int × (ByteArray × ((List Int) × Unit))) → (Option ((List Int) × Unit)))) (x4 : (Int × (Int × (Int × (ByteArray × ((List Int) × Unit)))))) (g5 : (Int × (Int × (Int × (ByteArray × ((List Int) × Unit))))) → Option ((List Int) × Unit)) : Option ((List Int) × Unit) :=
 (if ((decide (x4.1 < x4.2.1)) = true) then (if ((decide ((0 : Int) ≤ x4.1)) = true) then (if ((decide (x4.1 < (((ByteArray.size x4.2.2.2.1) : Nat) : Int))) = true) then (g5 ((Go.IntKind.wrap Go.IntKind.i64 (x4.1 + (1 : Int))) , (x4.2.1 , ((Go.IntKind.wrap Go.IntKind.i64 ((Go.IntKind.wrap Go.IntKind.i64 ((10 : Int) * x4.2.2.1)) + (Go.IntKind.wrap Go.IntKind.i64 (Go.IntKind.wrap Go.IntKind.u8 ((byteAt x4.2.2.2.1 x4.1) - (48 : Int)))))) , (x4.2.2.2.1 , (x4.2.2.2.2.1 , ()))))))
 else none)
 else none)
 else (if ((decide ((((List.length x4.2.2.2.2.1) + (List.length (x4.2.2.1 :: ([] : List Int)))) * (8 : Nat)) ≤ (140737488355328 : Nat))) = true) then (g2 ((Go.IntKind.wrap Go.IntKind.i64 (x4.2.1 - (9 : Int))) , (x4.2.2.2.1 , ((x4.2.2.2.2.1 ++ (x4.2.2.1 :: ([] : List Int))) , ()))))
 else none))
abbrev P.s_l01NatRead_b6 (g2 : ((Int × (ByteArray × ((List Int) × Unit))) → (Option ((List Int) × Unit)))) (x7 : (Int × (Int × (Int × (ByteArray × ((List Int) × Unit)))))) (g8 : (Int × (Int × (Int × (ByteArray × ((List Int) × Unit))))) → Option ((List Int) × Unit)) : Option ((List Int) × Unit) :=
 (if ((decide (x7.1 < x7.2.1)) = true) then (if ((decide ((0 : Int) ≤ x7.1)) = true) then (if ((decide (x7.1 < (((ByteArray.size x7.2.2.2.1) : Nat) : Int))) = true) then (g8 ((Go.IntKind.wrap Go.IntKind.i64 (x7.1 + (1 : Int))) , (x7.2.1 , ((Go.IntKind.wrap Go.IntKind.i64 ((Go.IntKind.wrap Go.IntKind.i64 ((10 : Int) * x7.2.2.1)) + (Go.IntKind.wrap Go.IntKind.i64 (Go.IntKind.wrap Go.IntKind.u8 ((byteAt x7.2.2.2.1 x7.1) - (48 : Int)))))) , (x7.2.2.2.1 , (x7.2.2.2.2.1 , ()))))))
 else none)
 else none)
 else (if ((decide ((((List.length x7.2.2.2.2.1) + (List.length (x7.2.2.1 :: ([] : List Int)))) * (8 : Nat)) ≤ (140737488355328 : Nat))) = true) then (g2 ((Go.IntKind.wrap Go.IntKind.i64 (x7.2.1 - (9 : Int))) , (x7.2.2.2.1 , ((x7.2.2.2.2.1 ++ (x7.2.2.1 :: ([] : List Int))) , ()))))
 else none))
abbrev P.s_l01NatRead_b0 (k : Nat) (x1 : (Int × (ByteArray × ((List Int) × Unit)))) (g2 : (Int × (ByteArray × ((List Int) × Unit))) → Option ((List Int) × Unit)) : Option ((List Int) × Unit) :=
 (if ((decide (x1.1 > (0 : Int))) = true) then (if ((decide (x1.1 > (9 : Int))) = true) then (loopP (X := (Int × (Int × (Int × (ByteArray × ((List Int) × Unit)))))) (R := ((List Int) × Unit)) (P.s_l01NatRead_b3 g2) k ((Go.IntKind.wrap Go.IntKind.i64 (x1.1 - (9 : Int))) , (x1.1 , ((0 : Int) , (x1.2.1 , (x1.2.2.1 , ()))))))
 else (loopP (X := (Int × (Int × (Int × (ByteArray × ((List Int) × Unit)))))) (R := ((List Int) × Unit)) (P.s_l01NatRead_b6 g2) k ((0 : Int) , (x1.1 , ((0 : Int) , (x1.2.1 , (x1.2.2.1 , ())))))))
 else (Option.bind (S.s_l01Trim (x1.2.2.1 , ())) (fun (y9 : ((List Int) × Unit)) => (some (y9.1 , ())))))
def P.s_l01NatRead (k : Nat) (x : (ByteArray × Unit)) : (Option ((List Int) × Unit)) :=
 (loopP (X := (Int × (ByteArray × ((List Int) × Unit)))) (R := ((List Int) × Unit)) (P.s_l01NatRead_b0 k) k ((((ByteArray.size x.1) : Nat) : Int) , (x.1 , (([] : List Int) , ()))))
theorem sr_inner (g : ((Int × (ByteArray × ((List Int) × Unit))) → (Option ((List Int) × Unit)))) (s : ByteArray) (l : List UInt8) (hL : s.data.toList = l) (hd : allD l = true) (a n : Nat) (hn : n ≤ 9) (han : a + n ≤ l.length) (hl : l.length ≤ 1000000000) (out : List Int) (ho : out.length ≤ 1000000000) (k : Nat) (hk : n < k) :
    loopP (P.s_l01NatRead_b3 g) k ((a : Int), (((a + n : Nat) : Int), ((0 : Int), (s, (out, ()))))) = g (((a + n : Nat) : Int) - 9, (s, (out ++ [((dv ((l.drop a).take n) : Nat) : Int)], ()))) := by
  have hs : s.size = l.length := by rw [← hL, Array.length_toList]; rfl
  have key := loop_up0 (k := k) (b := P.s_l01NatRead_b3 g) (n := n) (st := fun i => (((a + i : Nat) : Int), ((a + n : Nat) : Int), ((dv ((l.drop a).take i) : Nat) : Int), s, out, ())) (F := fun i => g (((a + n : Nat) : Int) - 9, (s, (out ++ [((dv ((l.drop a).take n) : Nat) : Int)], ())))) (fun i g' hi hg' => by
    unfold P.s_l01NatRead_b3
    dsimp only at hg' ⊢
    refine Eq.trans ?_ hg'
    have hi2 : i < (l.drop a).length := by rw [List.length_drop]; omega
    have e1 : ((a + i : Nat) : Int) < ((a + n : Nat) : Int) := by omega
    have e2 : (0 : Int) ≤ ((a + i : Nat) : Int) := by omega
    have e3 : ((a + i : Nat) : Int) < (l.length : Int) := by omega
    have hb : byteAt s ((a + i : Nat) : Int) = (((l.drop a)[i]).toNat : Int) := by
      unfold byteAt
      rw [hL, getD_cast l (a + i) _ (by omega), List.getElem_drop]
    have hc := allD_get (allD_drop hd a) hi2
    have hv := dv_lt (allD_take (allD_drop hd a) i)
    have hp : 10 ^ ((l.drop a).take i).length ≤ 10 ^ 9 := Nat.pow_le_pow_right (by decide) (by simp; omega)
    have hp9 : (10 : Nat) ^ 9 = 1000000000 := by decide
    rw [hs, hb, wr (x := ((a + i : Nat) : Int) + 1) (by omega) (by omega)]
    simp only [e1, e2, e3, decide_true, if_true]
    rw [← List.take_append_getElem hi2, dv_snoc]
    generalize (l.drop a)[i].toNat = c at *
    generalize dv ((l.drop a).take i) = v at *
    have h8 : Go.IntKind.wrap Go.IntKind.u8 ((c : Int) - 48) = (c : Int) - 48 := IntWalk.u8_in _ (by omega)
    rw [h8, wr (x := (c : Int) - 48) (by omega) (by omega), wr (x := 10 * (v : Int)) (by omega) (by omega), wr (x := 10 * (v : Int) + ((c : Int) - 48)) (by omega) (by omega), show 10 * (v : Int) + ((c : Int) - 48) = ((10 * v + (c - 48) : Nat) : Int) by omega]
    rfl) (fun g' => by
    unfold P.s_l01NatRead_b3
    dsimp only
    have hcap : (out.length + [((dv ((l.drop a).take n) : Nat) : Int)].length) * 8 ≤ 140737488355328 := by
      rw [List.length_singleton]
      omega
    rw [if_neg (by simp), if_pos (decide_eq_true hcap), wr (by omega) (by omega)]) hk
  exact key
theorem sr_outer (s : ByteArray) (l : List UInt8) (hL : s.data.toList = l) (hd : allD l = true) (hl : l.length ≤ 1000000000) (K : Nat) (hK : 9 < K) (n : Nat) : ∀ (to : Int) (out : List Int) (k : Nat), to ≤ (n : Int) → -9 ≤ to → to ≤ (l.length : Int) → n < k → dig B10 out = true → out.length + n ≤ l.length → dval B10 out + B10 ^ out.length * dv (l.take to.toNat) = dv l →
    loopP (P.s_l01NatRead_b0 K) k (to, (s, (out, ()))) = some (nd B10 (dv l), ()) := by
  induction n using Nat.strongRecOn with
  | ind n ih =>
    intro to out k hto hlo htl hk hdo hol hv
    obtain ⟨k, rfl⟩ : ∃ j, k = j + 1 := ⟨k - 1, by omega⟩
    rw [loopP_succ]
    unfold P.s_l01NatRead_b0
    dsimp only
    by_cases h0 : to > 0
    · rw [if_pos (decide_eq_true h0)]
      obtain ⟨m, rfl⟩ : ∃ m : Nat, to = (m : Int) := ⟨to.toNat, by omega⟩
      rw [Int.toNat_natCast] at hv
      have hB9 : B10 = 10 ^ 9 := by decide
      have hstep : ∀ a c : Nat, c ≤ 9 → a + c = m → (c = 9 ∨ a = 0) → loopP (P.s_l01NatRead_b3 (loopP (P.s_l01NatRead_b0 K) k)) K ((a : Int), ((m : Int), ((0 : Int), (s, (out, ()))))) = some (nd B10 (dv l), ()) := by
        intro a c hc9 hm hor
        have hin := sr_inner (loopP (P.s_l01NatRead_b0 K) k) s l hL hd a c hc9 (by omega) hl out (by omega) K (by omega)
        rw [hm] at hin
        rw [hin]
        have htk : l.take m = l.take a ++ (l.drop a).take c := by rw [← hm, List.take_add]
        have hpc : ((l.drop a).take c).length = c := by simp; omega
        have hpd := dv_lt (allD_take (allD_drop hd a) c)
        rw [hpc] at hpd
        have hp9 : 10 ^ c ≤ 10 ^ 9 := Nat.pow_le_pow_right (by decide) hc9
        have hpB : dv ((l.drop a).take c) < B10 := by rw [hB9]; omega
        have hta : l.take ((m : Int) - 9).toNat = l.take a := by
          rcases hor with g | g
          · rw [show ((m : Int) - 9).toNat = a by omega]
          · subst g
            rw [show ((m : Int) - 9).toNat = 0 by omega]
        refine ih (n - 1) (by omega) _ _ k (by omega) (by omega) (by omega) (by omega) ?_ (by rw [List.length_append, List.length_singleton]; omega) ?_
        · rw [dig_append, hdo, Bool.true_and, dig_cons]
          exact ⟨⟨by omega, by omega⟩, rfl⟩
        · rw [hta, dval_append, List.length_append, List.length_singleton, Nat.pow_succ, ← hv, htk, dv_append, hpc]
          have e1 : dval B10 [((dv ((l.drop a).take c) : Nat) : Int)] = dv ((l.drop a).take c) := by rw [dval, Int.toNat_natCast]; rfl
          rw [e1]
          rcases hor with g | g
          · rw [g, ← hB9, Nat.mul_assoc, Nat.mul_add, Nat.mul_comm B10]
            omega
          · subst g
            have : dv (l.take 0) = 0 := by rw [List.take_zero]; rfl
            rw [this, Nat.mul_zero, Nat.zero_mul, Nat.zero_add]
            omega
      by_cases h9 : (m : Int) > 9
      · rw [if_pos (decide_eq_true h9), wr (by omega) (by omega), show (m : Int) - 9 = ((m - 9 : Nat) : Int) by omega]
        exact hstep (m - 9) 9 (Nat.le_refl _) (by omega) (.inl rfl)
      · rw [if_neg (by simpa using h9)]
        exact hstep 0 m (by omega) (by omega) (.inr rfl)
    · rw [if_neg (by simpa using h0)]
      have h00 : to.toNat = 0 := by omega
      rw [h00, List.take_zero, show dv [] = 0 from rfl, Nat.mul_zero, Nat.add_zero] at hv
      unfold S.s_l01Trim
      dsimp only
      rw [if_pos ⟨hdo, by omega⟩, Option.bind_some, hv]
def S.s_l01NatRead (x : (ByteArray × Unit)) : (Option ((List Int) × Unit)) := if allD x.1.data.toList = true ∧ x.1.data.toList.length ≤ 1000000000 then some (nd B10 (dv x.1.data.toList), ()) else none
theorem S.s_l01NatRead_ok (x : (ByteArray × Unit)) (r : _) (h : S.s_l01NatRead x = some r) : ∃ k, P.s_l01NatRead k x = some r := by
  obtain ⟨s, u⟩ := x
  unfold S.s_l01NatRead at h
  dsimp only at h
  split at h
  case isFalse => cases h
  rename_i hc
  obtain ⟨hd, hl⟩ := hc
  cases h
  have hs : s.size = s.data.toList.length := by rw [Array.length_toList]; rfl
  refine ⟨s.data.toList.length + 10, ?_⟩
  unfold P.s_l01NatRead
  dsimp only
  rw [hs]
  exact sr_outer s _ rfl hd hl _ (by omega) s.data.toList.length _ [] _ (Int.le_refl _) (by omega) (Int.le_refl _) (by omega) rfl (by simp) (by rw [Int.toNat_natCast, List.take_length]; simp [dval])
abbrev P.s_l01Digits_b0  (x1 : (Int × (ByteArray × Unit))) (g2 : (Int × (ByteArray × Unit)) → Option (Bool × Unit)) : Option (Bool × Unit) :=
 (if ((decide (x1.1 < (((ByteArray.size x1.2.1) : Nat) : Int))) = true) then (if ((decide ((0 : Int) ≤ x1.1)) = true) then (if ((decide (x1.1 < (((ByteArray.size x1.2.1) : Nat) : Int))) = true) then (if ((decide ((byteAt x1.2.1 x1.1) < (48 : Int))) = true) then (some (false , ()))
 else (if ((decide ((0 : Int) ≤ x1.1)) = true) then (if ((decide (x1.1 < (((ByteArray.size x1.2.1) : Nat) : Int))) = true) then (if ((decide ((byteAt x1.2.1 x1.1) > (57 : Int))) = true) then (some (false , ()))
 else (g2 ((Go.IntKind.wrap Go.IntKind.i64 (x1.1 + (1 : Int))) , (x1.2.1 , ()))))
 else none)
 else none))
 else none)
 else none)
 else (if ((decide ((((ByteArray.size x1.2.1) : Nat) : Int) ≥ (1 : Int))) = true) then (if ((decide ((((ByteArray.size x1.2.1) : Nat) : Int) ≤ (200 : Int))) = true) then (if (((((ByteArray.size x1.2.1) : Nat) : Int) == (1 : Int)) = true) then (some (true , ()))
 else (if ((decide ((0 : Int) < (((ByteArray.size x1.2.1) : Nat) : Int))) = true) then (some (((byteAt x1.2.1 (0 : Int)) != (48 : Int)) , ()))
 else none))
 else (some (false , ())))
 else (some (false , ()))))
def P.s_l01Digits (k : Nat) (x : (ByteArray × Unit)) : (Option (Bool × Unit)) :=
 (loopP (X := (Int × (ByteArray × Unit))) (R := (Bool × Unit)) (P.s_l01Digits_b0 ) k ((0 : Int) , (x.1 , ())))
def S.s_l01Digits (x : (ByteArray × Unit)) : (Option (Bool × Unit)) := if x.1.size ≤ 281474976710656 then some (okN x.1.data.toList, ()) else none
theorem S.s_l01Digits_ok (x : (ByteArray × Unit)) (r : _) (h : S.s_l01Digits x = some r) : ∃ k, P.s_l01Digits k x = some r := by
  obtain ⟨s, u⟩ := x
  unfold S.s_l01Digits at h
  dsimp only at h
  split at h
  case isFalse => cases h
  rename_i hsz
  cases h
  have hs : s.size = s.data.toList.length := by rw [Array.length_toList]; rfl
  rw [hs] at hsz
  refine ⟨s.data.toList.length + 1, ?_⟩
  unfold P.s_l01Digits
  dsimp only
  generalize hL : s.data.toList = l at *
  have key := loop_up0 (k := l.length + 1) (b := P.s_l01Digits_b0) (n := l.length) (st := fun i => ((i : Int), s, ())) (F := fun i => some (allD (l.drop i) && okR l, ())) (fun i g hi hg => by
    unfold P.s_l01Digits_b0
    dsimp only at hg ⊢
    have e1 : (i : Int) < (l.length : Int) := by omega
    have e2 : (0 : Int) ≤ (i : Int) := by omega
    have hb : byteAt s (i : Int) = (l[i].toNat : Int) := by
      unfold byteAt
      rw [hL, getD_cast l i _ hi]
    have ha : allD (l.drop i) = (isD l[i] && allD (l.drop (i + 1))) := by
      rw [List.drop_eq_getElem_cons hi]
      rfl
    rw [hs, hb, wr (x := (i : Int) + 1) (by omega) (by omega), ha]
    simp only [e1, e2, decide_true, if_true]
    unfold isD
    by_cases c1 : 48 ≤ l[i].toNat
    · rw [if_neg (by simp; omega)]
      by_cases c2 : l[i].toNat ≤ 57
      · rw [if_neg (by simp; omega), decide_eq_true ⟨c1, c2⟩, Bool.true_and]
        exact hg
      · rw [if_pos (decide_eq_true (by omega)), decide_eq_false (fun q => c2 q.2)]
        rfl
    · rw [if_pos (decide_eq_true (by omega)), decide_eq_false (fun q => c1 q.1)]
      rfl) (fun g => by
    unfold P.s_l01Digits_b0
    dsimp only
    rw [hs, if_neg (by simp), List.drop_length, show allD [] = true from rfl, Bool.true_and]
    unfold okR
    by_cases h1 : l = []
    · subst h1
      rfl
    · have hpos : 0 < l.length := List.length_pos_iff.2 h1
      have d1 : (l.length : Int) ≥ 1 := by omega
      rw [if_pos (decide_eq_true d1), decide_eq_true h1, Bool.true_and]
      by_cases h2 : l.length ≤ 200
      · have d2 : (l.length : Int) ≤ 200 := by omega
        rw [if_pos (decide_eq_true d2), decide_eq_true h2, Bool.true_and]
        by_cases h3 : l.length = 1
        · have d3 : (((l.length : Nat) : Int) == (1 : Int)) = true := by simp [h3]
          rw [if_pos d3, decide_eq_true h3, Bool.true_or]
        · have d3 : ¬ (((l.length : Nat) : Int) == (1 : Int)) = true := by simp; omega
          have d4 : (0 : Int) < (l.length : Int) := by omega
          rw [if_neg d3, if_pos (decide_eq_true d4), decide_eq_false h3, Bool.false_or]
          have hb : byteAt s 0 = (l[0].toNat : Int) := by
            unfold byteAt
            rw [hL]
            simp [hpos]
          have hh : l.head? = some l[0] := by
            cases l with
            | nil => simp at h1
            | cons c r => rfl
          rw [hb, hh]
          by_cases c1 : l[0] = 48
          · rw [c1]
            rfl
          · have : ¬ ((l[0].toNat : Int) = 48) := by
              intro q
              apply c1
              apply UInt8.toNat_inj.1
              show _ = 48
              omega
            rw [decide_eq_true (by simpa using c1)]
            simpa [bne] using this
      · have d2 : ¬ (l.length : Int) ≤ 200 := by omega
        rw [if_neg (by simpa using d2), decide_eq_false h2, Bool.false_and]) (by omega)
  rw [List.drop_zero] at key
  exact key
def P.s_l01Parse (k : Nat) (x : (ByteArray × Unit)) : (Option (((Bool × ((List Int) × (List Int))) × Bool) × Unit)) :=
 (if ((decide ((((ByteArray.size x.1) : Nat) : Int) > (0 : Int))) = true) then (if ((decide ((0 : Int) < (((ByteArray.size x.1) : Nat) : Int))) = true) then (if (((byteAt x.1 (0 : Int)) == (45 : Int)) = true) then (if ((decide ((0 : Int) ≤ (((ByteArray.size x.1) : Nat) : Int))) = true) then (if ((decide ((((ByteArray.size x.1) : Nat) : Int) ≤ (((ByteArray.size x.1) : Nat) : Int))) = true) then (if ((decide ((1 : Int) ≤ (((ByteArray.size x.1) : Nat) : Int))) = true) then (Option.bind (S.s_l01Cut ((ByteArray.extract x.1 (1 : Nat) (Int.toNat (((ByteArray.size x.1) : Nat) : Int))) , ((47 : Int) , ()))) (fun (y0 : ((List ByteArray) × Unit)) => (if ((decide ((((List.length y0.1) : Nat) : Int) > (2 : Int))) = true) then (some (((false , (([] : List Int) , ([] : List Int))) , false) , ()))
 else (if ((decide ((0 : Int) < (((List.length y0.1) : Nat) : Int))) = true) then (Option.bind (S.s_l01Digits ((List.getD y0.1 (0 : Nat) (bs [])) , ())) (fun (y1 : (Bool × Unit)) => (if ((!y1.1) = true) then (some (((false , (([] : List Int) , ([] : List Int))) , false) , ()))
 else (if ((decide ((0 : Int) < (((List.length y0.1) : Nat) : Int))) = true) then (Option.bind (S.s_l01NatRead ((List.getD y0.1 (0 : Nat) (bs [])) , ())) (fun (y2 : ((List Int) × Unit)) => (if (((byteAt x.1 (0 : Int)) == (45 : Int)) = true) then (if (((((List.length y2.1) : Nat) : Int) == (0 : Int)) = true) then (some (((false , (([] : List Int) , ([] : List Int))) , false) , ()))
 else (if (((((List.length y0.1) : Nat) : Int) == (1 : Int)) = true) then (some (((((byteAt x.1 (0 : Int)) == (45 : Int)) , (y2.1 , ((1 : Int) :: ([] : List Int)))) , true) , ()))
 else (if ((decide ((1 : Int) < (((List.length y0.1) : Nat) : Int))) = true) then (Option.bind (S.s_l01Digits ((List.getD y0.1 (1 : Nat) (bs [])) , ())) (fun (y3 : (Bool × Unit)) => (if ((!y3.1) = true) then (some (((false , (([] : List Int) , ([] : List Int))) , false) , ()))
 else (if ((decide ((1 : Int) < (((List.length y0.1) : Nat) : Int))) = true) then (Option.bind (S.s_l01NatRead ((List.getD y0.1 (1 : Nat) (bs [])) , ())) (fun (y4 : ((List Int) × Unit)) => (Option.bind (S.s_l01Cmp (y4.1 , (((1 : Int) :: ([] : List Int)) , ()))) (fun (y5 : (Int × Unit)) => (if ((decide (y5.1 ≤ (0 : Int))) = true) then (some (((false , (([] : List Int) , ([] : List Int))) , false) , ()))
 else (Option.bind (S.s_l01Gcd (y2.1 , (y4.1 , ()))) (fun (y6 : ((List Int) × Unit)) => (Option.bind (S.s_l01Cmp (y6.1 , (((1 : Int) :: ([] : List Int)) , ()))) (fun (y7 : (Int × Unit)) => (if ((y7.1 != (0 : Int)) = true) then (some (((false , (([] : List Int) , ([] : List Int))) , false) , ()))
 else (some (((((byteAt x.1 (0 : Int)) == (45 : Int)) , (y2.1 , y4.1)) , true) , ()))))))))))))
 else none))))
 else none)))
 else (if (((((List.length y0.1) : Nat) : Int) == (1 : Int)) = true) then (some (((((byteAt x.1 (0 : Int)) == (45 : Int)) , (y2.1 , ((1 : Int) :: ([] : List Int)))) , true) , ()))
 else (if ((decide ((1 : Int) < (((List.length y0.1) : Nat) : Int))) = true) then (Option.bind (S.s_l01Digits ((List.getD y0.1 (1 : Nat) (bs [])) , ())) (fun (y8 : (Bool × Unit)) => (if ((!y8.1) = true) then (some (((false , (([] : List Int) , ([] : List Int))) , false) , ()))
 else (if ((decide ((1 : Int) < (((List.length y0.1) : Nat) : Int))) = true) then (Option.bind (S.s_l01NatRead ((List.getD y0.1 (1 : Nat) (bs [])) , ())) (fun (y9 : ((List Int) × Unit)) => (Option.bind (S.s_l01Cmp (y9.1 , (((1 : Int) :: ([] : List Int)) , ()))) (fun (y10 : (Int × Unit)) => (if ((decide (y10.1 ≤ (0 : Int))) = true) then (some (((false , (([] : List Int) , ([] : List Int))) , false) , ()))
 else (Option.bind (S.s_l01Gcd (y2.1 , (y9.1 , ()))) (fun (y11 : ((List Int) × Unit)) => (Option.bind (S.s_l01Cmp (y11.1 , (((1 : Int) :: ([] : List Int)) , ()))) (fun (y12 : (Int × Unit)) => (if ((y12.1 != (0 : Int)) = true) then (some (((false , (([] : List Int) , ([] : List Int))) , false) , ()))
 else (some (((((byteAt x.1 (0 : Int)) == (45 : Int)) , (y2.1 , y9.1)) , true) , ()))))))))))))
 else none))))
 else none)))))
 else none))))
 else none))))
 else none)
 else none)
 else none)
 else (Option.bind (S.s_l01Cut (x.1 , ((47 : Int) , ()))) (fun (y13 : ((List ByteArray) × Unit)) => (if ((decide ((((List.length y13.1) : Nat) : Int) > (2 : Int))) = true) then (some (((false , (([] : List Int) , ([] : List Int))) , false) , ()))
 else (if ((decide ((0 : Int) < (((List.length y13.1) : Nat) : Int))) = true) then (Option.bind (S.s_l01Digits ((List.getD y13.1 (0 : Nat) (bs [])) , ())) (fun (y14 : (Bool × Unit)) => (if ((!y14.1) = true) then (some (((false , (([] : List Int) , ([] : List Int))) , false) , ()))
 else (if ((decide ((0 : Int) < (((List.length y13.1) : Nat) : Int))) = true) then (Option.bind (S.s_l01NatRead ((List.getD y13.1 (0 : Nat) (bs [])) , ())) (fun (y15 : ((List Int) × Unit)) => (if (((byteAt x.1 (0 : Int)) == (45 : Int)) = true) then (if (((((List.length y15.1) : Nat) : Int) == (0 : Int)) = true) then (some (((false , (([] : List Int) , ([] : List Int))) , false) , ()))
 else (if (((((List.length y13.1) : Nat) : Int) == (1 : Int)) = true) then (some (((((byteAt x.1 (0 : Int)) == (45 : Int)) , (y15.1 , ((1 : Int) :: ([] : List Int)))) , true) , ()))
 else (if ((decide ((1 : Int) < (((List.length y13.1) : Nat) : Int))) = true) then (Option.bind (S.s_l01Digits ((List.getD y13.1 (1 : Nat) (bs [])) , ())) (fun (y16 : (Bool × Unit)) => (if ((!y16.1) = true) then (some (((false , (([] : List Int) , ([] : List Int))) , false) , ()))
 else (if ((decide ((1 : Int) < (((List.length y13.1) : Nat) : Int))) = true) then (Option.bind (S.s_l01NatRead ((List.getD y13.1 (1 : Nat) (bs [])) , ())) (fun (y17 : ((List Int) × Unit)) => (Option.bind (S.s_l01Cmp (y17.1 , (((1 : Int) :: ([] : List Int)) , ()))) (fun (y18 : (Int × Unit)) => (if ((decide (y18.1 ≤ (0 : Int))) = true) then (some (((false , (([] : List Int) , ([] : List Int))) , false) , ()))
 else (Option.bind (S.s_l01Gcd (y15.1 , (y17.1 , ()))) (fun (y19 : ((List Int) × Unit)) => (Option.bind (S.s_l01Cmp (y19.1 , (((1 : Int) :: ([] : List Int)) , ()))) (fun (y20 : (Int × Unit)) => (if ((y20.1 != (0 : Int)) = true) then (some (((false , (([] : List Int) , ([] : List Int))) , false) , ()))
 else (some (((((byteAt x.1 (0 : Int)) == (45 : Int)) , (y15.1 , y17.1)) , true) , ()))))))))))))
 else none))))
 else none)))
 else (if (((((List.length y13.1) : Nat) : Int) == (1 : Int)) = true) then (some (((((byteAt x.1 (0 : Int)) == (45 : Int)) , (y15.1 , ((1 : Int) :: ([] : List Int)))) , true) , ()))
 else (if ((decide ((1 : Int) < (((List.length y13.1) : Nat) : Int))) = true) then (Option.bind (S.s_l01Digits ((List.getD y13.1 (1 : Nat) (bs [])) , ())) (fun (y21 : (Bool × Unit)) => (if ((!y21.1) = true) then (some (((false , (([] : List Int) , ([] : List Int))) , false) , ()))
 else (if ((decide ((1 : Int) < (((List.length y13.1) : Nat) : Int))) = true) then (Option.bind (S.s_l01NatRead ((List.getD y13.1 (1 : Nat) (bs [])) , ())) (fun (y22 : ((List Int) × Unit)) => (Option.bind (S.s_l01Cmp (y22.1 , (((1 : Int) :: ([] : List Int)) , ()))) (fun (y23 : (Int × Unit)) => (if ((decide (y23.1 ≤ (0 : Int))) = true) then (some (((false , (([] : List Int) , ([] : List Int))) , false) , ()))
 else (Option.bind (S.s_l01Gcd (y15.1 , (y22.1 , ()))) (fun (y24 : ((List Int) × Unit)) => (Option.bind (S.s_l01Cmp (y24.1 , (((1 : Int) :: ([] : List Int)) , ()))) (fun (y25 : (Int × Unit)) => (if ((y25.1 != (0 : Int)) = true) then (some (((false , (([] : List Int) , ([] : List Int))) , false) , ()))
 else (some (((((byteAt x.1 (0 : Int)) == (45 : Int)) , (y15.1 , y22.1)) , true) , ()))))))))))))
 else none))))
 else none)))))
 else none))))
 else none)))))
 else none)
 else (Option.bind (S.s_l01Cut (x.1 , ((47 : Int) , ()))) (fun (y26 : ((List ByteArray) × Unit)) => (if ((decide ((((List.length y26.1) : Nat) : Int) > (2 : Int))) = true) then (some (((false , (([] : List Int) , ([] : List Int))) , false) , ()))
 else (if ((decide ((0 : Int) < (((List.length y26.1) : Nat) : Int))) = true) then (Option.bind (S.s_l01Digits ((List.getD y26.1 (0 : Nat) (bs [])) , ())) (fun (y27 : (Bool × Unit)) => (if ((!y27.1) = true) then (some (((false , (([] : List Int) , ([] : List Int))) , false) , ()))
 else (if ((decide ((0 : Int) < (((List.length y26.1) : Nat) : Int))) = true) then (Option.bind (S.s_l01NatRead ((List.getD y26.1 (0 : Nat) (bs [])) , ())) (fun (y28 : ((List Int) × Unit)) => (if (((((List.length y26.1) : Nat) : Int) == (1 : Int)) = true) then (some (((false , (y28.1 , ((1 : Int) :: ([] : List Int)))) , true) , ()))
 else (if ((decide ((1 : Int) < (((List.length y26.1) : Nat) : Int))) = true) then (Option.bind (S.s_l01Digits ((List.getD y26.1 (1 : Nat) (bs [])) , ())) (fun (y29 : (Bool × Unit)) => (if ((!y29.1) = true) then (some (((false , (([] : List Int) , ([] : List Int))) , false) , ()))
 else (if ((decide ((1 : Int) < (((List.length y26.1) : Nat) : Int))) = true) then (Option.bind (S.s_l01NatRead ((List.getD y26.1 (1 : Nat) (bs [])) , ())) (fun (y30 : ((List Int) × Unit)) => (Option.bind (S.s_l01Cmp (y30.1 , (((1 : Int) :: ([] : List Int)) , ()))) (fun (y31 : (Int × Unit)) => (if ((decide (y31.1 ≤ (0 : Int))) = true) then (some (((false , (([] : List Int) , ([] : List Int))) , false) , ()))
 else (Option.bind (S.s_l01Gcd (y28.1 , (y30.1 , ()))) (fun (y32 : ((List Int) × Unit)) => (Option.bind (S.s_l01Cmp (y32.1 , (((1 : Int) :: ([] : List Int)) , ()))) (fun (y33 : (Int × Unit)) => (if ((y33.1 != (0 : Int)) = true) then (some (((false , (([] : List Int) , ([] : List Int))) , false) , ()))
 else (some (((false , (y28.1 , y30.1)) , true) , ()))))))))))))
 else none))))
 else none))))
 else none))))
 else none)))))
theorem pp_sign (T : ByteArray) (n : Bool) (hsz : T.size ≤ 1000000) :
    (Option.bind (S.s_l01Cut (T , ((47 : Int) , ()))) (fun (z0 : ((List ByteArray) × Unit)) => (if ((decide ((((List.length z0.1) : Nat) : Int) > (2 : Int))) = true) then (some (((false , (([] : List Int) , ([] : List Int))) , false) , ()))
 else (if ((decide ((0 : Int) < (((List.length z0.1) : Nat) : Int))) = true) then (Option.bind (S.s_l01Digits ((List.getD z0.1 (0 : Nat) (Go.Cm.bs [])) , ())) (fun (z1 : (Bool × Unit)) => (if ((!z1.1) = true) then (some (((false , (([] : List Int) , ([] : List Int))) , false) , ()))
 else (if ((decide ((0 : Int) < (((List.length z0.1) : Nat) : Int))) = true) then (Option.bind (S.s_l01NatRead ((List.getD z0.1 (0 : Nat) (Go.Cm.bs [])) , ())) (fun (z2 : ((List Int) × Unit)) => (if (n = true) then (if (((((List.length z2.1) : Nat) : Int) == (0 : Int)) = true) then (some (((false , (([] : List Int) , ([] : List Int))) , false) , ()))
 else (if (((((List.length z0.1) : Nat) : Int) == (1 : Int)) = true) then (some (((n , (z2.1 , ((1 : Int) :: ([] : List Int)))) , true) , ()))
 else (if ((decide ((1 : Int) < (((List.length z0.1) : Nat) : Int))) = true) then (Option.bind (S.s_l01Digits ((List.getD z0.1 (1 : Nat) (Go.Cm.bs [])) , ())) (fun (z3 : (Bool × Unit)) => (if ((!z3.1) = true) then (some (((false , (([] : List Int) , ([] : List Int))) , false) , ()))
 else (if ((decide ((1 : Int) < (((List.length z0.1) : Nat) : Int))) = true) then (Option.bind (S.s_l01NatRead ((List.getD z0.1 (1 : Nat) (Go.Cm.bs [])) , ())) (fun (z4 : ((List Int) × Unit)) => (Option.bind (S.s_l01Cmp (z4.1 , (((1 : Int) :: ([] : List Int)) , ()))) (fun (z5 : (Int × Unit)) => (if ((decide (z5.1 ≤ (0 : Int))) = true) then (some (((false , (([] : List Int) , ([] : List Int))) , false) , ()))
 else (Option.bind (S.s_l01Gcd (z2.1 , (z4.1 , ()))) (fun (z6 : ((List Int) × Unit)) => (Option.bind (S.s_l01Cmp (z6.1 , (((1 : Int) :: ([] : List Int)) , ()))) (fun (z7 : (Int × Unit)) => (if ((z7.1 != (0 : Int)) = true) then (some (((false , (([] : List Int) , ([] : List Int))) , false) , ()))
 else (some (((n , (z2.1 , z4.1)) , true) , ()))))))))))))
 else none))))
 else none)))
 else (if (((((List.length z0.1) : Nat) : Int) == (1 : Int)) = true) then (some (((n , (z2.1 , ((1 : Int) :: ([] : List Int)))) , true) , ()))
 else (if ((decide ((1 : Int) < (((List.length z0.1) : Nat) : Int))) = true) then (Option.bind (S.s_l01Digits ((List.getD z0.1 (1 : Nat) (Go.Cm.bs [])) , ())) (fun (z8 : (Bool × Unit)) => (if ((!z8.1) = true) then (some (((false , (([] : List Int) , ([] : List Int))) , false) , ()))
 else (if ((decide ((1 : Int) < (((List.length z0.1) : Nat) : Int))) = true) then (Option.bind (S.s_l01NatRead ((List.getD z0.1 (1 : Nat) (Go.Cm.bs [])) , ())) (fun (z9 : ((List Int) × Unit)) => (Option.bind (S.s_l01Cmp (z9.1 , (((1 : Int) :: ([] : List Int)) , ()))) (fun (z10 : (Int × Unit)) => (if ((decide (z10.1 ≤ (0 : Int))) = true) then (some (((false , (([] : List Int) , ([] : List Int))) , false) , ()))
 else (Option.bind (S.s_l01Gcd (z2.1 , (z9.1 , ()))) (fun (z11 : ((List Int) × Unit)) => (Option.bind (S.s_l01Cmp (z11.1 , (((1 : Int) :: ([] : List Int)) , ()))) (fun (z12 : (Int × Unit)) => (if ((z12.1 != (0 : Int)) = true) then (some (((false , (([] : List Int) , ([] : List Int))) , false) , ()))
 else (some (((n , (z2.1 , z9.1)) , true) , ()))))))))))))
 else none))))
 else none)))))
 else none))))
 else none)))) = some ((rp B10 (rdBody n (cutP 47 T.data.toList)).1, (rdBody n (cutP 47 T.data.toList)).2), ()) := by
  have hbad : ((false, (([] : List Int), ([] : List Int))), false) = (rp B10 noQ.1, noQ.2) := by
    unfold noQ rp
    dsimp only
    rw [nd_zero B10_le]
  have hcut : S.s_l01Cut (T, (47, ())) = some ((cutUp T 47 (T.size + 1)).1, ()) := by
    unfold S.s_l01Cut
    exact if_pos hsz
  have hp : (cutUp T 47 (T.size + 1)).1.map (·.data.toList) = pieces 47 T.data.toList := cutUp_pieces T 47
  have hlen : ∀ A ∈ (cutUp T 47 (T.size + 1)).1, A.data.toList.length ≤ 1000000 := by
    intro A hA
    have h1 := pieces_len 47 T.data.toList A.data.toList (by rw [← hp]; exact List.mem_map_of_mem hA)
    have h2 : T.size = T.data.toList.length := by rw [Array.length_toList]; rfl
    omega
  rw [hcut, Option.bind_some, hbad]
  generalize (cutUp T 47 (T.size + 1)).1 = ps at *
  rw [pieces_cutP] at hp
  generalize hc : cutP 47 T.data.toList = c at *
  have hDig : ∀ A ∈ ps, S.s_l01Digits (A, ()) = some (okN A.data.toList, ()) := by
    intro A hA
    have h1 := hlen A hA
    have h2 : A.size = A.data.toList.length := by rw [Array.length_toList]; rfl
    unfold S.s_l01Digits
    exact if_pos (by dsimp only; omega)
  have hRead : ∀ A ∈ ps, okN A.data.toList = true → S.s_l01NatRead (A, ()) = some (nd B10 (dv A.data.toList), ()) := by
    intro A hA hok
    have h1 := okN_allD hok
    unfold S.s_l01NatRead
    exact if_pos ⟨h1.1, by dsimp only; omega⟩
  have hz : ∀ m : Nat, (((nd B10 m).length : Int) == 0) = decide (m = 0) := by
    intro m
    have := canon_nil B10_le (canon_nd B10_le m)
    rw [dval_nd B10_le] at this
    by_cases h0 : m = 0
    · rw [this.2 h0, h0]; rfl
    · have hne := fun q => h0 (this.1 q)
      rw [decide_eq_false h0]
      simpa using hne
  have hone : ([1] : List Int) = nd B10 1 := (nd_one B10_le).symm
  unfold rdBody
  cases hf : c.2.2
  · -- one part
    rw [hf, if_neg (by decide)] at hp
    obtain ⟨A, rfl, hA⟩ : ∃ A, ps = [A] ∧ A.data.toList = c.1 := by
      exact List.map_eq_singleton_iff.1 hp
    have hd := hDig A (by simp)
    have hr := hRead A (by simp)
    rw [hA] at hd hr
    have l1 : ¬ (((List.length [A] : Nat) : Int) > 2) := by simp
    have l2 : (0 : Int) < ((List.length [A] : Nat) : Int) := by simp
    have l3 : (((List.length [A] : Nat) : Int) == 1) = true := rfl
    simp only [l1, l2, l3, decide_true, decide_false, if_true, if_false, Bool.false_eq_true, List.getD_cons_zero]
    rw [hd, Option.bind_some]
    dsimp only
    cases hok : okN c.1
    · rw [if_pos (show (!false) = true by rfl), if_neg (fun q => by cases q.1)]
    · rw [if_neg (show ¬ ((!true) = true) by decide), hr hok, Option.bind_some]
      dsimp only
      rw [hz]
      cases n
      · rw [if_neg (show ¬ ((false : Bool) = true) by decide), if_pos ⟨rfl, fun q => by cases q.1⟩, hone]
        rfl
      · rw [if_pos rfl]
        by_cases h0 : dv c.1 = 0
        · rw [if_pos (decide_eq_true h0), if_neg (fun q => q.2 ⟨rfl, h0⟩)]
        · rw [if_neg (by simpa using h0), if_pos ⟨rfl, fun q => h0 q.2⟩, hone]
          rfl
  · rw [hf, if_pos rfl, pieces_cutP] at hp
    cases hf2 : (cutP 47 c.2.1).2.2
    · rw [hf2, if_neg (by decide)] at hp
      have hy : (cutP 47 c.2.1).1 = c.2.1 := ((cutP_index 47 c.2.1).1 hf2).2.1
      rw [hy] at hp
      obtain ⟨A, B, rfl, hA, hB⟩ : ∃ A B, ps = [A, B] ∧ A.data.toList = c.1 ∧ B.data.toList = c.2.1 := by
        obtain ⟨A, q, rfl, hA, hq⟩ := List.map_eq_cons_iff.1 hp
        obtain ⟨B, rfl, hB⟩ := List.map_eq_singleton_iff.1 hq
        exact ⟨A, B, rfl, hA, hB⟩
      have hd := hDig A (by simp)
      have hr := hRead A (by simp)
      have hd2 := hDig B (by simp)
      have hr2 := hRead B (by simp)
      rw [hA] at hd hr
      rw [hB] at hd2 hr2
      have l1 : ¬ (((List.length [A, B] : Nat) : Int) > 2) := by simp
      have l2 : (0 : Int) < ((List.length [A, B] : Nat) : Int) := by simp
      have l3 : (((List.length [A, B] : Nat) : Int) == 1) = false := rfl
      have l4 : (1 : Int) < ((List.length [A, B] : Nat) : Int) := by simp
      simp only [l1, l2, l3, l4, decide_true, decide_false, if_true, if_false, Bool.false_eq_true, List.getD_cons_zero, List.getD_cons_succ]
      rw [hd, Option.bind_some]
      dsimp only
      cases hok : okN c.1
      · rw [if_pos (show (!false) = true by rfl), if_neg (fun q => by cases q.1)]
      · rw [if_neg (show ¬ ((!true) = true) by decide), hr hok, Option.bind_some]
        dsimp only
        have la := nd_len200 (B := B10) (by decide) (okN_lt hok)
        -- what follows, once the sign fits
        have hrest : ∀ (m : Bool), ¬ (m = true ∧ dv c.1 = 0) → (Option.bind (S.s_l01Digits (B , ())) (fun (w0 : (Bool × Unit)) => (if ((!w0.1) = true) then (some ((rp B10 noQ.1 , noQ.2) , ()))
 else (Option.bind (S.s_l01NatRead (B , ())) (fun (w1 : ((List Int) × Unit)) => (Option.bind (S.s_l01Cmp (w1.1 , (((1 : Int) :: ([] : List Int)) , ()))) (fun (w2 : (Int × Unit)) => (if ((decide (w2.1 ≤ (0 : Int))) = true) then (some ((rp B10 noQ.1 , noQ.2) , ()))
 else (Option.bind (S.s_l01Gcd (nd B10 (dv c.1) , (w1.1 , ()))) (fun (w3 : ((List Int) × Unit)) => (Option.bind (S.s_l01Cmp (w3.1 , (((1 : Int) :: ([] : List Int)) , ()))) (fun (w4 : (Int × Unit)) => (if ((w4.1 != (0 : Int)) = true) then (some ((rp B10 noQ.1 , noQ.2) , ()))
 else (some (((m , (nd B10 (dv c.1) , w1.1)) , true) , ()))))))))))))))) = some ((rp B10 (if okN c.2.1 = true ∧ 1 < dv c.2.1 ∧ Nat.gcd (dv c.1) (dv c.2.1) = 1 then ((m, (dv c.1, dv c.2.1)), true) else noQ).1, (if okN c.2.1 = true ∧ 1 < dv c.2.1 ∧ Nat.gcd (dv c.1) (dv c.2.1) = 1 then ((m, (dv c.1, dv c.2.1)), true) else noQ).2), ()) := by
          intro m hm
          rw [hd2, Option.bind_some]
          dsimp only
          cases hb : okN c.2.1
          · have hx : ¬ ((false : Bool) = true ∧ 1 < dv c.2.1 ∧ Nat.gcd (dv c.1) (dv c.2.1) = 1) := fun q => by cases q.1
            rw [if_pos (show (!false) = true by rfl), if_neg hx]
          · have lb := nd_len200 (B := B10) (by decide) (okN_lt hb)
            rw [if_neg (show ¬ ((!true) = true) by decide), hr2 hb, Option.bind_some]
            dsimp only
            have e1 : S.s_l01Cmp (nd B10 (dv c.2.1), ([1], ())) = some (cmpN (dv c.2.1) 1, ()) := by
              unfold S.s_l01Cmp
              dsimp only
              rw [if_pos ⟨canon_nd B10_le _, canon_one B10_le, by omega⟩, dval_nd B10_le, dval_one]
            have e2 : S.s_l01Gcd (nd B10 (dv c.1), (nd B10 (dv c.2.1), ())) = some (nd B10 (Nat.gcd (dv c.1) (dv c.2.1)), ()) := by
              unfold S.s_l01Gcd
              dsimp only
              rw [if_pos ⟨canon_nd B10_le _, canon_nd B10_le _, by omega, by omega⟩, dval_nd B10_le, dval_nd B10_le]
            rw [e1, Option.bind_some]
            dsimp only
            by_cases h1 : 1 < dv c.2.1
            · have hcm : ¬ (cmpN (dv c.2.1) 1 ≤ 0) := by
                have := (cmpN_gt (a := dv c.2.1) (b := 1)).2 h1
                omega
              have lg : (nd B10 (Nat.gcd (dv c.1) (dv c.2.1))).length ≤ 200 := Nat.le_trans (nd_shorter' B10_le (Nat.le_of_dvd (by omega) (Nat.gcd_dvd_right _ _))) lb
              have e3 : S.s_l01Cmp (nd B10 (Nat.gcd (dv c.1) (dv c.2.1)), ([1], ())) = some (cmpN (Nat.gcd (dv c.1) (dv c.2.1)) 1, ()) := by
                unfold S.s_l01Cmp
                dsimp only
                rw [if_pos ⟨canon_nd B10_le _, canon_one B10_le, by omega⟩, dval_nd B10_le, dval_one]
              rw [if_neg (by simpa using hcm), e2, Option.bind_some]
              dsimp only
              rw [e3, Option.bind_some]
              dsimp only
              by_cases hg : Nat.gcd (dv c.1) (dv c.2.1) = 1
              · rw [if_neg (by simpa using cmpN_zero.2 hg), if_pos ⟨rfl, h1, hg⟩]
                rfl
              · rw [if_pos (by simpa using fun q => hg (cmpN_zero.1 q)), if_neg (fun q => hg q.2.2)]
            · have hcm : cmpN (dv c.2.1) 1 ≤ 0 := by
                have h2 : ¬ (cmpN (dv c.2.1) 1 > 0) := fun q => h1 ((cmpN_gt (a := dv c.2.1) (b := 1)).1 q)
                omega
              rw [if_pos (decide_eq_true hcm), if_neg (fun q => h1 q.2.1)]
        rw [hz]
        cases n
        · have hm : ¬ ((false : Bool) = true ∧ dv c.1 = 0) := fun q => by cases q.1
          rw [if_neg (show ¬ ((false : Bool) = true) by decide), if_pos ⟨rfl, hm⟩]
          exact hrest false hm
        · rw [if_pos rfl]
          by_cases h0 : dv c.1 = 0
          · rw [if_pos (decide_eq_true h0), if_neg (fun q => q.2 ⟨rfl, h0⟩)]
          · have hm : ¬ ((true : Bool) = true ∧ dv c.1 = 0) := fun q => h0 q.2
            rw [if_neg (by simpa using h0), if_pos ⟨rfl, hm⟩]
            exact hrest true hm
    · -- three parts or more
      rw [hf2, if_pos rfl] at hp
      have hl : ps.length = 2 + (pieces 47 (cutP 47 c.2.1).2.1).length := by
        have := congrArg List.length hp
        simp at this
        omega
      have hl2 : (pieces 47 (cutP 47 c.2.1).2.1).length ≠ 0 := fun q => pieces_ne 47 _ (List.eq_nil_of_length_eq_zero q)
      have l1 : ((ps.length : Nat) : Int) > 2 := by omega
      have hx : ¬ (okN c.2.1 = true ∧ 1 < dv c.2.1 ∧ Nat.gcd (dv c.1) (dv c.2.1) = 1) := fun q => by
        have := cutP_allD (okN_allD q.1).1
        rw [hf2] at this
        cases this
      rw [if_pos (decide_eq_true l1), if_pos rfl, if_neg hx]
      split <;> rfl
theorem pp_plain (T : ByteArray) (hsz : T.size ≤ 1000000) :
    (Option.bind (S.s_l01Cut (T , ((47 : Int) , ()))) (fun (z0 : ((List ByteArray) × Unit)) => (if ((decide ((((List.length z0.1) : Nat) : Int) > (2 : Int))) = true) then (some (((false , (([] : List Int) , ([] : List Int))) , false) , ()))
 else (if ((decide ((0 : Int) < (((List.length z0.1) : Nat) : Int))) = true) then (Option.bind (S.s_l01Digits ((List.getD z0.1 (0 : Nat) (Go.Cm.bs [])) , ())) (fun (z1 : (Bool × Unit)) => (if ((!z1.1) = true) then (some (((false , (([] : List Int) , ([] : List Int))) , false) , ()))
 else (if ((decide ((0 : Int) < (((List.length z0.1) : Nat) : Int))) = true) then (Option.bind (S.s_l01NatRead ((List.getD z0.1 (0 : Nat) (Go.Cm.bs [])) , ())) (fun (z2 : ((List Int) × Unit)) => (if (((((List.length z0.1) : Nat) : Int) == (1 : Int)) = true) then (some (((false , (z2.1 , ((1 : Int) :: ([] : List Int)))) , true) , ()))
 else (if ((decide ((1 : Int) < (((List.length z0.1) : Nat) : Int))) = true) then (Option.bind (S.s_l01Digits ((List.getD z0.1 (1 : Nat) (Go.Cm.bs [])) , ())) (fun (z3 : (Bool × Unit)) => (if ((!z3.1) = true) then (some (((false , (([] : List Int) , ([] : List Int))) , false) , ()))
 else (if ((decide ((1 : Int) < (((List.length z0.1) : Nat) : Int))) = true) then (Option.bind (S.s_l01NatRead ((List.getD z0.1 (1 : Nat) (Go.Cm.bs [])) , ())) (fun (z4 : ((List Int) × Unit)) => (Option.bind (S.s_l01Cmp (z4.1 , (((1 : Int) :: ([] : List Int)) , ()))) (fun (z5 : (Int × Unit)) => (if ((decide (z5.1 ≤ (0 : Int))) = true) then (some (((false , (([] : List Int) , ([] : List Int))) , false) , ()))
 else (Option.bind (S.s_l01Gcd (z2.1 , (z4.1 , ()))) (fun (z6 : ((List Int) × Unit)) => (Option.bind (S.s_l01Cmp (z6.1 , (((1 : Int) :: ([] : List Int)) , ()))) (fun (z7 : (Int × Unit)) => (if ((z7.1 != (0 : Int)) = true) then (some (((false , (([] : List Int) , ([] : List Int))) , false) , ()))
 else (some (((false , (z2.1 , z4.1)) , true) , ()))))))))))))
 else none))))
 else none))))
 else none))))
 else none)))) = some ((rp B10 (rdBody false (cutP 47 T.data.toList)).1, (rdBody false (cutP 47 T.data.toList)).2), ()) := by
  have hbad : ((false, (([] : List Int), ([] : List Int))), false) = (rp B10 noQ.1, noQ.2) := by
    unfold noQ rp
    dsimp only
    rw [nd_zero B10_le]
  have hcut : S.s_l01Cut (T, (47, ())) = some ((cutUp T 47 (T.size + 1)).1, ()) := by
    unfold S.s_l01Cut
    exact if_pos hsz
  have hp : (cutUp T 47 (T.size + 1)).1.map (·.data.toList) = pieces 47 T.data.toList := cutUp_pieces T 47
  have hlen : ∀ A ∈ (cutUp T 47 (T.size + 1)).1, A.data.toList.length ≤ 1000000 := by
    intro A hA
    have h1 := pieces_len 47 T.data.toList A.data.toList (by rw [← hp]; exact List.mem_map_of_mem hA)
    have h2 : T.size = T.data.toList.length := by rw [Array.length_toList]; rfl
    omega
  rw [hcut, Option.bind_some, hbad]
  generalize (cutUp T 47 (T.size + 1)).1 = ps at *
  rw [pieces_cutP] at hp
  generalize hc : cutP 47 T.data.toList = c at *
  have hDig : ∀ A ∈ ps, S.s_l01Digits (A, ()) = some (okN A.data.toList, ()) := by
    intro A hA
    have h1 := hlen A hA
    have h2 : A.size = A.data.toList.length := by rw [Array.length_toList]; rfl
    unfold S.s_l01Digits
    exact if_pos (by dsimp only; omega)
  have hRead : ∀ A ∈ ps, okN A.data.toList = true → S.s_l01NatRead (A, ()) = some (nd B10 (dv A.data.toList), ()) := by
    intro A hA hok
    have h1 := okN_allD hok
    unfold S.s_l01NatRead
    exact if_pos ⟨h1.1, by dsimp only; omega⟩
  have hz : ∀ m : Nat, (((nd B10 m).length : Int) == 0) = decide (m = 0) := by
    intro m
    have := canon_nil B10_le (canon_nd B10_le m)
    rw [dval_nd B10_le] at this
    by_cases h0 : m = 0
    · rw [this.2 h0, h0]; rfl
    · have hne := fun q => h0 (this.1 q)
      rw [decide_eq_false h0]
      simpa using hne
  have hone : ([1] : List Int) = nd B10 1 := (nd_one B10_le).symm
  unfold rdBody
  cases hf : c.2.2
  · -- one part
    rw [hf, if_neg (by decide)] at hp
    obtain ⟨A, rfl, hA⟩ : ∃ A, ps = [A] ∧ A.data.toList = c.1 := by
      exact List.map_eq_singleton_iff.1 hp
    have hd := hDig A (by simp)
    have hr := hRead A (by simp)
    rw [hA] at hd hr
    have l1 : ¬ (((List.length [A] : Nat) : Int) > 2) := by simp
    have l2 : (0 : Int) < ((List.length [A] : Nat) : Int) := by simp
    have l3 : (((List.length [A] : Nat) : Int) == 1) = true := rfl
    simp only [l1, l2, l3, decide_true, decide_false, if_true, if_false, Bool.false_eq_true, List.getD_cons_zero]
    rw [hd, Option.bind_some]
    dsimp only
    cases hok : okN c.1
    · rw [if_pos (show (!false) = true by rfl), if_neg (fun q => by cases q.1)]
    · rw [if_neg (show ¬ ((!true) = true) by decide), hr hok, Option.bind_some]
      dsimp only
      rw [if_pos ⟨rfl, fun q => by cases q.1⟩, hone]
      rfl
  · rw [hf, if_pos rfl, pieces_cutP] at hp
    cases hf2 : (cutP 47 c.2.1).2.2
    · rw [hf2, if_neg (by decide)] at hp
      have hy : (cutP 47 c.2.1).1 = c.2.1 := ((cutP_index 47 c.2.1).1 hf2).2.1
      rw [hy] at hp
      obtain ⟨A, B, rfl, hA, hB⟩ : ∃ A B, ps = [A, B] ∧ A.data.toList = c.1 ∧ B.data.toList = c.2.1 := by
        obtain ⟨A, q, rfl, hA, hq⟩ := List.map_eq_cons_iff.1 hp
        obtain ⟨B, rfl, hB⟩ := List.map_eq_singleton_iff.1 hq
        exact ⟨A, B, rfl, hA, hB⟩
      have hd := hDig A (by simp)
      have hr := hRead A (by simp)
      have hd2 := hDig B (by simp)
      have hr2 := hRead B (by simp)
      rw [hA] at hd hr
      rw [hB] at hd2 hr2
      have l1 : ¬ (((List.length [A, B] : Nat) : Int) > 2) := by simp
      have l2 : (0 : Int) < ((List.length [A, B] : Nat) : Int) := by simp
      have l3 : (((List.length [A, B] : Nat) : Int) == 1) = false := rfl
      have l4 : (1 : Int) < ((List.length [A, B] : Nat) : Int) := by simp
      simp only [l1, l2, l3, l4, decide_true, decide_false, if_true, if_false, Bool.false_eq_true, List.getD_cons_zero, List.getD_cons_succ]
      rw [hd, Option.bind_some]
      dsimp only
      cases hok : okN c.1
      · rw [if_pos (show (!false) = true by rfl), if_neg (fun q => by cases q.1)]
      · rw [if_neg (show ¬ ((!true) = true) by decide), hr hok, Option.bind_some]
        dsimp only
        have la := nd_len200 (B := B10) (by decide) (okN_lt hok)
        -- what follows, once the sign fits
        have hrest : ∀ (m : Bool), ¬ (m = true ∧ dv c.1 = 0) → (Option.bind (S.s_l01Digits (B , ())) (fun (w0 : (Bool × Unit)) => (if ((!w0.1) = true) then (some ((rp B10 noQ.1 , noQ.2) , ()))
 else (Option.bind (S.s_l01NatRead (B , ())) (fun (w1 : ((List Int) × Unit)) => (Option.bind (S.s_l01Cmp (w1.1 , (((1 : Int) :: ([] : List Int)) , ()))) (fun (w2 : (Int × Unit)) => (if ((decide (w2.1 ≤ (0 : Int))) = true) then (some ((rp B10 noQ.1 , noQ.2) , ()))
 else (Option.bind (S.s_l01Gcd (nd B10 (dv c.1) , (w1.1 , ()))) (fun (w3 : ((List Int) × Unit)) => (Option.bind (S.s_l01Cmp (w3.1 , (((1 : Int) :: ([] : List Int)) , ()))) (fun (w4 : (Int × Unit)) => (if ((w4.1 != (0 : Int)) = true) then (some ((rp B10 noQ.1 , noQ.2) , ()))
 else (some (((m , (nd B10 (dv c.1) , w1.1)) , true) , ()))))))))))))))) = some ((rp B10 (if okN c.2.1 = true ∧ 1 < dv c.2.1 ∧ Nat.gcd (dv c.1) (dv c.2.1) = 1 then ((m, (dv c.1, dv c.2.1)), true) else noQ).1, (if okN c.2.1 = true ∧ 1 < dv c.2.1 ∧ Nat.gcd (dv c.1) (dv c.2.1) = 1 then ((m, (dv c.1, dv c.2.1)), true) else noQ).2), ()) := by
          intro m hm
          rw [hd2, Option.bind_some]
          dsimp only
          cases hb : okN c.2.1
          · have hx : ¬ ((false : Bool) = true ∧ 1 < dv c.2.1 ∧ Nat.gcd (dv c.1) (dv c.2.1) = 1) := fun q => by cases q.1
            rw [if_pos (show (!false) = true by rfl), if_neg hx]
          · have lb := nd_len200 (B := B10) (by decide) (okN_lt hb)
            rw [if_neg (show ¬ ((!true) = true) by decide), hr2 hb, Option.bind_some]
            dsimp only
            have e1 : S.s_l01Cmp (nd B10 (dv c.2.1), ([1], ())) = some (cmpN (dv c.2.1) 1, ()) := by
              unfold S.s_l01Cmp
              dsimp only
              rw [if_pos ⟨canon_nd B10_le _, canon_one B10_le, by omega⟩, dval_nd B10_le, dval_one]
            have e2 : S.s_l01Gcd (nd B10 (dv c.1), (nd B10 (dv c.2.1), ())) = some (nd B10 (Nat.gcd (dv c.1) (dv c.2.1)), ()) := by
              unfold S.s_l01Gcd
              dsimp only
              rw [if_pos ⟨canon_nd B10_le _, canon_nd B10_le _, by omega, by omega⟩, dval_nd B10_le, dval_nd B10_le]
            rw [e1, Option.bind_some]
            dsimp only
            by_cases h1 : 1 < dv c.2.1
            · have hcm : ¬ (cmpN (dv c.2.1) 1 ≤ 0) := by
                have := (cmpN_gt (a := dv c.2.1) (b := 1)).2 h1
                omega
              have lg : (nd B10 (Nat.gcd (dv c.1) (dv c.2.1))).length ≤ 200 := Nat.le_trans (nd_shorter' B10_le (Nat.le_of_dvd (by omega) (Nat.gcd_dvd_right _ _))) lb
              have e3 : S.s_l01Cmp (nd B10 (Nat.gcd (dv c.1) (dv c.2.1)), ([1], ())) = some (cmpN (Nat.gcd (dv c.1) (dv c.2.1)) 1, ()) := by
                unfold S.s_l01Cmp
                dsimp only
                rw [if_pos ⟨canon_nd B10_le _, canon_one B10_le, by omega⟩, dval_nd B10_le, dval_one]
              rw [if_neg (by simpa using hcm), e2, Option.bind_some]
              dsimp only
              rw [e3, Option.bind_some]
              dsimp only
              by_cases hg : Nat.gcd (dv c.1) (dv c.2.1) = 1
              · rw [if_neg (by simpa using cmpN_zero.2 hg), if_pos ⟨rfl, h1, hg⟩]
                rfl
              · rw [if_pos (by simpa using fun q => hg (cmpN_zero.1 q)), if_neg (fun q => hg q.2.2)]
            · have hcm : cmpN (dv c.2.1) 1 ≤ 0 := by
                have h2 : ¬ (cmpN (dv c.2.1) 1 > 0) := fun q => h1 ((cmpN_gt (a := dv c.2.1) (b := 1)).1 q)
                omega
              rw [if_pos (decide_eq_true hcm), if_neg (fun q => h1 q.2.1)]
        have hm : ¬ ((false : Bool) = true ∧ dv c.1 = 0) := fun q => by cases q.1
        rw [if_pos ⟨rfl, fun q => q.1⟩]
        exact hrest false hm
    · -- three parts or more
      rw [hf2, if_pos rfl] at hp
      have hl : ps.length = 2 + (pieces 47 (cutP 47 c.2.1).2.1).length := by
        have := congrArg List.length hp
        simp at this
        omega
      have hl2 : (pieces 47 (cutP 47 c.2.1).2.1).length ≠ 0 := fun q => pieces_ne 47 _ (List.eq_nil_of_length_eq_zero q)
      have l1 : ((ps.length : Nat) : Int) > 2 := by omega
      have hx : ¬ (okN c.2.1 = true ∧ 1 < dv c.2.1 ∧ Nat.gcd (dv c.1) (dv c.2.1) = 1) := fun q => by
        have := cutP_allD (okN_allD q.1).1
        rw [hf2] at this
        cases this
      rw [if_pos (decide_eq_true l1), if_pos rfl, if_neg hx]
      split <;> rfl
def S.s_l01Parse (x : (ByteArray × Unit)) : (Option (((Bool × ((List Int) × (List Int))) × Bool) × Unit)) := if x.1.size ≤ 1000000 then some ((rp B10 (rdRat x.1.data.toList).1, (rdRat x.1.data.toList).2), ()) else none
theorem S.s_l01Parse_ok (x : (ByteArray × Unit)) (r : _) (h : S.s_l01Parse x = some r) : ∃ k, P.s_l01Parse k x = some r := by
  obtain ⟨s, u⟩ := x
  unfold S.s_l01Parse at h
  dsimp only at h
  split at h
  case isFalse => cases h
  rename_i hsz
  refine ⟨0, ?_⟩
  rw [← h]
  unfold P.s_l01Parse
  dsimp only
  have hs : s.size = s.data.toList.length := by rw [Array.length_toList]; rfl
  unfold rdRat
  by_cases h0 : s.data.toList = []
  · have l1 : ¬ ((s.size : Int) > 0) := by rw [hs, h0]; simp
    rw [if_neg (by simpa using l1), h0, if_neg (by simp), ← h0]
    exact pp_plain s hsz
  · have hpos : 0 < s.data.toList.length := List.length_pos_iff.2 h0
    have l1 : (s.size : Int) > 0 := by omega
    have l2 : (0 : Int) < (s.size : Int) := by omega
    have l3 : (0 : Int) ≤ (s.size : Int) := by omega
    have l4 : (1 : Int) ≤ (s.size : Int) := by omega
    have hb : byteAt s 0 = (s.data.toList[0].toNat : Int) := congrArg (fun c : UInt8 => (c.toNat : Int)) (getD_cast s.data.toList 0 0 hpos)
    have hh : s.data.toList.head? = some s.data.toList[0] := by
      generalize s.data.toList = l at *
      cases l with
      | nil => simp at h0
      | cons c r => rfl
    rw [if_pos (decide_eq_true l1), if_pos (decide_eq_true l2), hh, Int.toNat_natCast]
    by_cases c1 : s.data.toList[0] = 45
    · have hn : (byteAt s 0 == 45) = true := by
        rw [hb, c1]
        rfl
      have hx : (ByteArray.extract s 1 s.size).data.toList = s.data.toList.tail := by
        rw [ext_list, List.take_of_length_le (by omega), List.drop_one]
      have hxs : (ByteArray.extract s 1 s.size).size ≤ 1000000 := by
        have : (ByteArray.extract s 1 s.size).size = (ByteArray.extract s 1 s.size).data.toList.length := by rw [Array.length_toList]; rfl
        rw [this, hx]
        simp
        omega
      rw [hn, if_pos rfl, if_pos (decide_eq_true l3), if_pos (decide_eq_true (Int.le_refl _)), if_pos (decide_eq_true l4), if_pos (by rw [c1])]
      have := pp_sign (ByteArray.extract s 1 s.size) true hxs
      rw [hx] at this
      exact this
    · have hn : (byteAt s 0 == 45) = false := by
        rw [hb, beq_eq_false_iff_ne]
        intro q
        apply c1
        apply UInt8.toNat_inj.1
        show _ = 45
        omega
      rw [hn, if_neg (show ¬ ((false : Bool) = true) by decide), if_neg (by rw [Option.some.injEq]; exact c1)]
      exact pp_sign s false hsz
def P.s_l01Two (k : Nat) (x : (ByteArray × (ByteArray × Unit))) : (Option (((Bool × ((List Int) × (List Int))) × ((Bool × ((List Int) × (List Int))) × Bool)) × Unit)) :=
 (Option.bind (S.s_l01Parse (x.1 , ())) (fun (y0 : (((Bool × ((List Int) × (List Int))) × Bool) × Unit)) => (Option.bind (S.s_l01Parse (x.2.1 , ())) (fun (y1 : (((Bool × ((List Int) × (List Int))) × Bool) × Unit)) => (if (y0.1.2 = true) then (some (((y0.1.1.1 , (y0.1.1.2.1 , y0.1.1.2.2)) , ((y1.1.1.1 , (y1.1.1.2.1 , y1.1.1.2.2)) , y1.1.2)) , ()))
 else (some (((y0.1.1.1 , (y0.1.1.2.1 , y0.1.1.2.2)) , ((y1.1.1.1 , (y1.1.1.2.1 , y1.1.1.2.2)) , false)) , ())))))))
def S.s_l01Two (x : (ByteArray × (ByteArray × Unit))) : (Option (((Bool × ((List Int) × (List Int))) × ((Bool × ((List Int) × (List Int))) × Bool)) × Unit)) := P.s_l01Two 0 x
theorem S.s_l01Two_ok (x : (ByteArray × (ByteArray × Unit))) (r : _) (h : S.s_l01Two x = some r) : ∃ k, P.s_l01Two k x = some r := ⟨0, h⟩
def P.s_OverFraction (k : Nat) (x : (ByteArray × (ByteArray × Unit))) : (Option ((ByteArray × Bool) × Unit)) :=
 (Option.bind (S.s_l01Two (x.1 , (x.2.1 , ()))) (fun (y0 : (((Bool × ((List Int) × (List Int))) × ((Bool × ((List Int) × (List Int))) × Bool)) × Unit)) => (if ((!y0.1.2.2) = true) then (some (((bs []) , false) , ()))
 else (Option.bind (S.s_l01Zero ((y0.1.2.1.1 , (y0.1.2.1.2.1 , y0.1.2.1.2.2)) , ())) (fun (y1 : (Bool × Unit)) => (if (y1.1 = true) then (some (((bs []) , false) , ()))
 else (Option.bind (S.s_l01Over ((y0.1.1.1 , (y0.1.1.2.1 , y0.1.1.2.2)) , ((y0.1.2.1.1 , (y0.1.2.1.2.1 , y0.1.2.1.2.2)) , ()))) (fun (y2 : ((Bool × ((List Int) × (List Int))) × Unit)) => (Option.bind (S.s_l01Give ((y2.1.1 , (y2.1.2.1 , y2.1.2.2)) , ())) (fun (y3 : ((ByteArray × Bool) × Unit)) => (some ((y3.1.1 , y3.1.2) , ()))))))))))))
def S.s_OverFraction (x : (ByteArray × (ByteArray × Unit))) : (Option ((ByteArray × Bool) × Unit)) := P.s_OverFraction 0 x
theorem S.s_OverFraction_ok (x : (ByteArray × (ByteArray × Unit))) (r : _) (h : S.s_OverFraction x = some r) : ∃ k, P.s_OverFraction k x = some r := ⟨0, h⟩
def P.l_FnExactOverFraction (k : Nat) (x : (ByteArray × (ByteArray × Unit))) : (Option (Bool × Unit)) :=
 (if ((decide ((Go.IntKind.wrap Go.IntKind.i64 ((((ByteArray.size x.1) : Nat) : Int) + (((ByteArray.size x.2.1) : Nat) : Int))) > (1000000 : Int))) = true) then (some (true , ()))
 else (Option.bind (S.s_OverFraction (x.1 , (x.2.1 , ()))) (fun (y0 : ((ByteArray × Bool) × Unit)) => (Option.bind (S.i_OverFraction (x.1 , (x.2.1 , ()))) (fun (y1 : ((ByteArray × Bool) × Unit)) => (if ((!((ByteArray.toList y1.1.1) == (ByteArray.toList y0.1.1))) = true) then (some (false , ()))
 else (if ((!(y1.1.2 == y0.1.2)) = true) then (some (false , ()))
 else (some (true , ())))))))))
def S.l_FnExactOverFraction (x : (ByteArray × (ByteArray × Unit))) : (Option (Bool × Unit)) := P.l_FnExactOverFraction 0 x
theorem S.l_FnExactOverFraction_ok (x : (ByteArray × (ByteArray × Unit))) (r : _) (h : S.l_FnExactOverFraction x = some r) : ∃ k, P.l_FnExactOverFraction k x = some r := ⟨0, h⟩
end Go.Cm
end
