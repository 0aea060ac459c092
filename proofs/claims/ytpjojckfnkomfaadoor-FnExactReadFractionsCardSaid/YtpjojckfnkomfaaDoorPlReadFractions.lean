import Derived.Test.YtpjojckfnkomfaaDoorPlReadFractionsb
set_option linter.unusedVariables false
set_option maxRecDepth 100000
noncomputable section
namespace Go.Cm
def P.s_l01Parse (k : Nat) (x : (ByteArray × Unit)) : (Option (((Bool × ((List Int) × (List Int))) × Bool) × Unit)) :=
 (if ((decide ((((ByteArray.size x.1) : Nat) : Int) > (0 : Int))) = true) then (if ((decide ((0 : Int) < (((ByteArray.size x.1) : Nat) : Int))) = true) then (if (((byteAt x.1 (0 : Int)) == (45 : Int)) = true) then (if ((decide ((0 : Int) ≤ (((ByteArray.size x.1) : Nat) : Int))) = true) then (if ((decide ((((ByteArray.size x.1) : Nat) : Int) ≤ (((ByteArray.size x.1) : Nat) : Int))) = true) then (if ((decide ((1 : Int) ≤ (((ByteArray.size x.1) : Nat) : Int))) = true) then (Option.bind (S.s_l01Cut ((ByteArray.extract x.1 (1 : Nat) (Int.toNat (((ByteArray.size x.1) : Nat) : Int))) , ((47 : Int) , ()))) (fun (y0 : ((List ByteArray) × Unit)) => (if ((decide ((((List.length y0.1) : Nat) : Int) > (2 : Int))) = true) then (some (((false , (([] : List Int) , ([] : List Int))) , false) , ()))
 else (if ((decide ((0 : Int) < (((List.length y0.1) : Nat) : Int))) = true) then (Option.bind (S.s_l01Digits ((List.getD y0.1 (0 : Nat) (bs [])) , ())) (fun (y1 : (Bool × Unit)) => (if ((!y1.1) = true) then (some (((false , (([] : List Int) , ([] : List Int))) , false) , ()))
 else (if ((decide ((0 : Int) < (((List.length y0.1) : Nat) : Int))) = true) then (Option.bind (S.s_l01NatRead ((List.getD y0.1 (0 : Nat) (bs [])) , ())) (fun (y2 : ((List Int) × Unit)) => (if (((byteAt x.1 (0 : Int)) == (45 : Int)) = true) then (if (((((List.length y2.1) : Nat) : Int) == (0 : Int)) = true) then (some (((false , (([] : List Int) , ([] : List Int))) , false) , ()))
 else (if (((((List.length y0.1) : Nat) : Int) == (1 : Int)) = true) then (some (((((byteAt x.1 (0 : Int)) == (45 : Int)) , (y2.1 , ((1 : Int) :: ([] : List Int)))) , true) , ()))
 else (if ((decide ((1 : Int) < (((List.length y0.1) : Nat) : Int))) = true) then (Option.bind (S.s_l01Digits ((List.getD y0.1 (1 : Nat) (bs [])) , ())) (fun (y3 : (Bool × Unit)) => (if ((!y3.1) = true) then (some (((false , (([] : List Int) , ([] : List Int))) , false) , ()))
 else (if ((decide ((1 : Int) < (((List.length y0.1) : Nat) : Int))) = true) then (Option.bind (S.s_l01NatRead ((List.getD y0.1 (1 : Nat) (bs [])) , ())) (fun (y4 : ((List Int) × Unit)) => (Option.bind (S.s_l01Cmp (y4.1 , (((1 : Int) :: ([] : List Int)) , ()))) (fun (y5 : (Int × Unit)) => (if ((decide (y5.1 ≤ (0 : Int))) = true) then (some (((false , (([] : List Int) , ([] : List Int))) , false) , ()))
 else (Option.bind (S.s_l01Gcd (y2.1 , (y4.1 , ()))) (fun (y6 : ((List Int) × Unit)) => (Option.bind (S.s_l01Cmp (y6.1 , (((1 : Int) :: ([] : List Int)) , ()))) (fun (y7 : (Int × Unit)) => (if ((y7.1 != (0 : Int)) = true) then (some (((false , (([] : List Int) , ([] : List Int))) , false) , ()))
 else (some (((((byteAt x.1 (0 : Int)) == (45 : Int)) , (y2.1 , y4.1)) , true) , ()))))))))))))
 else none))))
 else none)))
 else (if (((((List.length y0.1) : Nat) : Int) == (1 : Int)) = true) then (some (((((byteAt x.1 (0 : Int)) == (45 : Int)) , (y2.1 , ((1 : Int) :: ([] : List Int)))) , true) , ()))
 else (if ((decide ((1 : Int) < (((List.length y0.1) : Nat) : Int))) = true) then (Option.bind (S.s_l01Digits ((List.getD y0.1 (1 : Nat) (bs [])) , ())) (fun (y8 : (Bool × Unit)) => (if ((!y8.1) = true) then (some (((false , (([] : List Int) , ([] : List Int))) , false) , ()))
 else (if ((decide ((1 : Int) < (((List.length y0.1) : Nat) : Int))) = true) then (Option.bind (S.s_l01NatRead ((List.getD y0.1 (1 : Nat) (bs [])) , ())) (fun (y9 : ((List Int) × Unit)) => (Option.bind (S.s_l01Cmp (y9.1 , (((1 : Int) :: ([] : List Int)) , ()))) (fun (y10 : (Int × Unit)) => (if ((decide (y10.1 ≤ (0 : Int))) = true) then (some (((false , (([] : List Int) , ([] : List Int))) , false) , ()))
 else (Option.bind (S.s_l01Gcd (y2.1 , (y9.1 , ()))) (fun (y11 : ((List Int) × Unit)) => (Option.bind (S.s_l01Cmp (y11.1 , (((1 : Int) :: ([] : List Int)) , ()))) (fun (y12 : (Int × Unit)) => (if ((y12.1 != (0 : Int)) = true) then (some (((false , (([] : List Int) , ([] : List Int))) , false) , ()))
 else (some (((((byteAt x.1 (0 : Int)) == (45 : Int)) , (y2.1 , y9.1)) , true) , ()))))))))))))
 else none))))
 else none)))))
 else none))))
 else none))))
 else none)
 else none)
 else none)
 else (Option.bind (S.s_l01Cut (x.1 , ((47 : Int) , ()))) (fun (y13 : ((List ByteArray) × Unit)) => (if ((decide ((((List.length y13.1) : Nat) : Int) > (2 : Int))) = true) then (some (((false , (([] : List Int) , ([] : List Int))) , false) , ()))
 else (if ((decide ((0 : Int) < (((List.length y13.1) : Nat) : Int))) = true) then (Option.bind (S.s_l01Digits ((List.getD y13.1 (0 : Nat) (bs [])) , ())) (fun (y14 : (Bool × Unit)) => (if ((!y14.1) = true) then (some (((false , (([] : List Int) , ([] : List Int))) , false) , ()))
 else (if ((decide ((0 : Int) < (((List.length y13.1) : Nat) : Int))) = true) then (Option.bind (S.s_l01NatRead ((List.getD y13.1 (0 : Nat) (bs [])) , ())) (fun (y15 : ((List Int) × Unit)) => (if (((byteAt x.1 (0 : Int)) == (45 : Int)) = true) then (if (((((List.length y15.1) : Nat) : Int) == (0 : Int)) = true) then (some (((false , (([] : List Int) , ([] : List Int))) , false) , ()))
 else (if (((((List.length y13.1) : Nat) : Int) == (1 : Int)) = true) then (some (((((byteAt x.1 (0 : Int)) == (45 : Int)) , (y15.1 , ((1 : Int) :: ([] : List Int)))) , true) , ()))
 else (if ((decide ((1 : Int) < (((List.length y13.1) : Nat) : Int))) = true) then (Option.bind (S.s_l01Digits ((List.getD y13.1 (1 : Nat) (bs [])) , ())) (fun (y16 : (Bool × Unit)) => (if ((!y16.1) = true) then (some (((false , (([] : List Int) , ([] : List Int))) , false) , ()))
 else (if ((decide ((1 : Int) < (((List.length y13.1) : Nat) : Int))) = true) then (Option.bind (S.s_l01NatRead ((List.getD y13.1 (1 : Nat) (bs [])) , ())) (fun (y17 : ((List Int) × Unit)) => (Option.bind (S.s_l01Cmp (y17.1 , (((1 : Int) :: ([] : List Int)) , ()))) (fun (y18 : (Int × Unit)) => (if ((decide (y18.1 ≤ (0 : Int))) = true) then (some (((false , (([] : List Int) , ([] : List Int))) , false) , ()))
 else (Option.bind (S.s_l01Gcd (y15.1 , (y17.1 , ()))) (fun (y19 : ((List Int) × Unit)) => (Option.bind (S.s_l01Cmp (y19.1 , (((1 : Int) :: ([] : List Int)) , ()))) (fun (y20 : (Int × Unit)) => (if ((y20.1 != (0 : Int)) = true) then (some (((false , (([] : List Int) , ([] : List Int))) , false) , ()))
 else (some (((((byteAt x.1 (0 : Int)) == (45 : Int)) , (y15.1 , y17.1)) , true) , ()))))))))))))
 else none))))
 else none)))
 else (if (((((List.length y13.1) : Nat) : Int) == (1 : Int)) = true) then (some (((((byteAt x.1 (0 : Int)) == (45 : Int)) , (y15.1 , ((1 : Int) :: ([] : List Int)))) , true) , ()))
 else (if ((decide ((1 : Int) < (((List.length y13.1) : Nat) : Int))) = true) then (Option.bind (S.s_l01Digits ((List.getD y13.1 (1 : Nat) (bs [])) , ())) (fun (y21 : (Bool × Unit)) => (if ((!y21.1) = true) then (some (((false , (([] : List Int) , ([] : List Int))) , false) , ()))
 else (if ((decide ((1 : Int) < (((List.length y13.1) : Nat) : Int))) = true) then (Option.bind (S.s_l01NatRead ((List.getD y13.1 (1 : Nat) (bs [])) , ())) (fun (y22 : ((List Int) × Unit)) => (Option.bind (S.s_l01Cmp (y22.1 , (((1 : Int) :: ([] : List Int)) , ()))) (fun (y23 : (Int × Unit)) => (if ((decide (y23.1 ≤ (0 : Int))) = true) then (some (((false , (([] : List Int) , ([] : List Int))) , false) , ()))
 else (Option.bind (S.s_l01Gcd (y15.1 , (y22.1 , ()))) (fun (y24 : ((List Int) × Unit)) => (Option.bind (S.s_l01Cmp (y24.1 , (((1 : Int) :: ([] : List Int)) , ()))) (fun (y25 : (Int × Unit)) => (if ((y25.1 != (0 : Int)) = true) then (some (((false , (([] : List Int) , ([] : List Int))) , false) , ()))
 else (some (((((byteAt x.1 (0 : Int)) == (45 : Int)) , (y15.1 , y22.1)) , true) , ()))))))))))))
 else none))))
 else none)))))
 else none))))
 else none)))))
 else none)
 else (Option.bind (S.s_l01Cut (x.1 , ((47 : Int) , ()))) (fun (y26 : ((List ByteArray) × Unit)) => (if ((decide ((((List.length y26.1) : Nat) : Int) > (2 : Int))) = true) then (some (((false , (([] : List Int) , ([] : List Int))) , false) , ()))
 else (if ((decide ((0 : Int) < (((List.length y26.1) : Nat) : Int))) = true) then (Option.bind (S.s_l01Digits ((List.getD y26.1 (0 : Nat) (bs [])) , ())) (fun (y27 : (Bool × Unit)) => (if ((!y27.1) = true) then (some (((false , (([] : List Int) , ([] : List Int))) , false) , ()))
 else (if ((decide ((0 : Int) < (((List.length y26.1) : Nat) : Int))) = true) then (Option.bind (S.s_l01NatRead ((List.getD y26.1 (0 : Nat) (bs [])) , ())) (fun (y28 : ((List Int) × Unit)) => (if (((((List.length y26.1) : Nat) : Int) == (1 : Int)) = true) then (some (((false , (y28.1 , ((1 : Int) :: ([] : List Int)))) , true) , ()))
 else (if ((decide ((1 : Int) < (((List.length y26.1) : Nat) : Int))) = true) then (Option.bind (S.s_l01Digits ((List.getD y26.1 (1 : Nat) (bs [])) , ())) (fun (y29 : (Bool × Unit)) => (if ((!y29.1) = true) then (some (((false , (([] : List Int) , ([] : List Int))) , false) , ()))
 else (if ((decide ((1 : Int) < (((List.length y26.1) : Nat) : Int))) = true) then (Option.bind (S.s_l01NatRead ((List.getD y26.1 (1 : Nat) (bs [])) , ())) (fun (y30 : ((List Int) × Unit)) => (Option.bind (S.s_l01Cmp (y30.1 , (((1 : Int) :: ([] : List Int)) , ()))) (fun (y31 : (Int × Unit)) => (if ((decide (y31.1 ≤ (0 : Int))) = true) then (some (((false , (([] : List Int) , ([] : List Int))) , false) , ()))
 else (Option.bind (S.s_l01Gcd (y28.1 , (y30.1 , ()))) (fun (y32 : ((List Int) × Unit)) => (Option.bind (S.s_l01Cmp (y32.1 , (((1 : Int) :: ([] : List Int)) , ()))) (fun (y33 : (Int × Unit)) => (if ((y33.1 != (0 : Int)) = true) then (some (((false , (([] : List Int) , ([] : List Int))) , false) , ()))
 else (some (((false , (y28.1 , y30.1)) , true) , ()))))))))))))
 else none))))
 else none))))
 else none))))
 else none)))))
theorem pp_sign (T : ByteArray) (n : Bool) (hsz : T.size ≤ 1000000) :
    (Option.bind (S.s_l01Cut (T , ((47 : Int) , ()))) (fun (z0 : ((List ByteArray) × Unit)) => (if ((decide ((((List.length z0.1) : Nat) : Int) > (2 : Int))) = true) then (some (((false , (([] : List Int) , ([] : List Int))) , false) , ()))
 else (if ((decide ((0 : Int) < (((List.length z0.1) : Nat) : Int))) = true) then (Option.bind (S.s_l01Digits ((List.getD z0.1 (0 : Nat) (Go.Cm.bs [])) , ())) (fun (z1 : (Bool × Unit)) => (if ((!z1.1) = true) then (some (((false , (([] : List Int) , ([] : List Int))) , false) , ()))
 else (if ((decide ((0 : Int) < (((List.length z0.1) : Nat) : Int))) = true) then (Option.bind (S.s_l01NatRead ((List.getD z0.1 (0 : Nat) (Go.Cm.bs [])) , ())) (fun (z2 : ((List Int) × Unit)) => (if (n = true) then (if (((((List.length z2.1) : Nat) : Int) == (0 : Int)) = true) then (some (((false , (([] : List Int) , ([] : List Int))) , false) , ()))
 else (if (((((List.length z0.1) : Nat) : Int) == (1 : Int)) = true) then (some (((n , (z2.1 , ((1 : Int) :: ([] : List Int)))) , true) , ()))
 else (if ((decide ((1 : Int) < (((List.length z0.1) : Nat) : Int))) = true) then (Option.bind (S.s_l01Digits ((List.getD z0.1 (1 : Nat) (Go.Cm.bs [])) , ())) (fun (z3 : (Bool × Unit)) => (if ((!z3.1) = true) then (some (((false , (([] : List Int) , ([] : List Int))) , false) , ()))
 else (if ((decide ((1 : Int) < (((List.length z0.1) : Nat) : Int))) = true) then (Option.bind (S.s_l01NatRead ((List.getD z0.1 (1 : Nat) (Go.Cm.bs [])) , ())) (fun (z4 : ((List Int) × Unit)) => (Option.bind (S.s_l01Cmp (z4.1 , (((1 : Int) :: ([] : List Int)) , ()))) (fun (z5 : (Int × Unit)) => (if ((decide (z5.1 ≤ (0 : Int))) = true) then (some (((false , (([] : List Int) , ([] : List Int))) , false) , ()))
 else (Option.bind (S.s_l01Gcd (z2.1 , (z4.1 , ()))) (fun (z6 : ((List Int) × Unit)) => (Option.bind (S.s_l01Cmp (z6.1 , (((1 : Int) :: ([] : List Int)) , ()))) (fun (z7 : (Int × Unit)) => (if ((z7.1 != (0 : Int)) = true) then (some (((false , (([] : List Int) , ([] : List Int))) , false) , ()))
 else (some (((n , (z2.1 , z4.1)) , true) , ()))))))))))))
 else none))))
 else none)))
 else (if (((((List.length z0.1) : Nat) : Int) == (1 : Int)) = true) then (some (((n , (z2.1 , ((1 : Int) :: ([] : List Int)))) , true) , ()))
 else (if ((decide ((1 : Int) < (((List.length z0.1) : Nat) : Int))) = true) then (Option.bind (S.s_l01Digits ((List.getD z0.1 (1 : Nat) (Go.Cm.bs [])) , ())) (fun (z8 : (Bool × Unit)) => (if ((!z8.1) = true) then (some (((false , (([] : List Int) , ([] : List Int))) , false) , ()))
 else (if ((decide ((1 : Int) < (((List.length z0.1) : Nat) : Int))) = true) then (Option.bind (S.s_l01NatRead ((List.getD z0.1 (1 : Nat) (Go.Cm.bs [])) , ())) (fun (z9 : ((List Int) × Unit)) => (Option.bind (S.s_l01Cmp (z9.1 , (((1 : Int) :: ([] : List Int)) , ()))) (fun (z10 : (Int × Unit)) => (if ((decide (z10.1 ≤ (0 : Int))) = true) then (some (((false , (([] : List Int) , ([] : List Int))) , false) , ()))
 else (Option.bind (S.s_l01Gcd (z2.1 , (z9.1 , ()))) (fun (z11 : ((List Int) × Unit)) => (Option.bind (S.s_l01Cmp (z11.1 , (((1 : Int) :: ([] : List Int)) , ()))) (fun (z12 : (Int × Unit)) => (if ((z12.1 != (0 : Int)) = true) then (some (((false , (([] : List Int) , ([] : List Int))) , false) , ()))
 else (some (((n , (z2.1 , z9.1)) , true) , ()))))))))))))
 else none))))
 else none)))))
 else none))))
 else none)))) = some ((rp B10 (rdBody n (cutP 47 T.data.toList)).1, (rdBody n (cutP 47 T.data.toList)).2), ()) := by
  have hbad : ((false, (([] : List Int), ([] : List Int))), false) = (rp B10 noQ.1, noQ.2) := by
    unfold noQ rp
    dsimp only
    rw [nd_zero B10_le]
  have hcut : S.s_l01Cut (T, (47, ())) = some ((cutUp T 47 (T.size + 1)).1, ()) := by
    unfold S.s_l01Cut
    exact if_pos hsz
  have hp : (cutUp T 47 (T.size + 1)).1.map (·.data.toList) = pieces 47 T.data.toList := cutUp_pieces T 47
  have hlen : ∀ A ∈ (cutUp T 47 (T.size + 1)).1, A.data.toList.length ≤ 1000000 := by
    intro A hA
    have h1 := pieces_len 47 T.data.toList A.data.toList (by rw [← hp]; exact List.mem_map_of_mem hA)
    have h2 : T.size = T.data.toList.length := by rw [Array.length_toList]; rfl
    omega
  rw [hcut, Option.bind_some, hbad]
  generalize (cutUp T 47 (T.size + 1)).1 = ps at *
  rw [pieces_cutP] at hp
  generalize hc : cutP 47 T.data.toList = c at *
  have hDig : ∀ A ∈ ps, S.s_l01Digits (A, ()) = some (okN A.data.toList, ()) := by
    intro A hA
    have h1 := hlen A hA
    have h2 : A.size = A.data.toList.length := by rw [Array.length_toList]; rfl
    unfold S.s_l01Digits
    exact if_pos (by dsimp only; omega)
  have hRead : ∀ A ∈ ps, okN A.data.toList = true → S.s_l01NatRead (A, ()) = some (nd B10 (dv A.data.toList), ()) := by
    intro A hA hok
    have h1 := okN_allD hok
    unfold S.s_l01NatRead
    exact if_pos ⟨h1.1, by dsimp only; omega⟩
  have hz : ∀ m : Nat, (((nd B10 m).length : Int) == 0) = decide (m = 0) := by
    intro m
    have := canon_nil B10_le (canon_nd B10_le m)
    rw [dval_nd B10_le] at this
    by_cases h0 : m = 0
    · rw [this.2 h0, h0]; rfl
    · have hne := fun q => h0 (this.1 q)
      rw [decide_eq_false h0]
      simpa using hne
  have hone : ([1] : List Int) = nd B10 1 := (nd_one B10_le).symm
  unfold rdBody
  cases hf : c.2.2
  · -- one part
    rw [hf, if_neg (by decide)] at hp
    obtain ⟨A, rfl, hA⟩ : ∃ A, ps = [A] ∧ A.data.toList = c.1 := by
      exact List.map_eq_singleton_iff.1 hp
    have hd := hDig A (by simp)
    have hr := hRead A (by simp)
    rw [hA] at hd hr
    have l1 : ¬ (((List.length [A] : Nat) : Int) > 2) := by simp
    have l2 : (0 : Int) < ((List.length [A] : Nat) : Int) := by simp
    have l3 : (((List.length [A] : Nat) : Int) == 1) = true := rfl
    simp only [l1, l2, l3, decide_true, decide_false, if_true, if_false, Bool.false_eq_true, List.getD_cons_zero]
    rw [hd, Option.bind_some]
    dsimp only
    cases hok : okN c.1
    · rw [if_pos (show (!false) = true by rfl), if_neg (fun q => by cases q.1)]
    · rw [if_neg (show ¬ ((!true) = true) by decide), hr hok, Option.bind_some]
      dsimp only
      rw [hz]
      cases n
      · rw [if_neg (show ¬ ((false : Bool) = true) by decide), if_pos ⟨rfl, fun q => by cases q.1⟩, hone]
        rfl
      · rw [if_pos rfl]
        by_cases h0 : dv c.1 = 0
        · rw [if_pos (decide_eq_true h0), if_neg (fun q => q.2 ⟨rfl, h0⟩)]
        · rw [if_neg (by simpa using h0), if_pos ⟨rfl, fun q => h0 q.2⟩, hone]
          rfl
  · rw [hf, if_pos rfl, pieces_cutP] at hp
    cases hf2 : (cutP 47 c.2.1).2.2
    · rw [hf2, if_neg (by decide)] at hp
      have hy : (cutP 47 c.2.1).1 = c.2.1 := ((cutP_index 47 c.2.1).1 hf2).2.1
      rw [hy] at hp
      obtain ⟨A, B, rfl, hA, hB⟩ : ∃ A B, ps = [A, B] ∧ A.data.toList = c.1 ∧ B.data.toList = c.2.1 := by
        obtain ⟨A, q, rfl, hA, hq⟩ := List.map_eq_cons_iff.1 hp
        obtain ⟨B, rfl, hB⟩ := List.map_eq_singleton_iff.1 hq
        exact ⟨A, B, rfl, hA, hB⟩
      have hd := hDig A (by simp)
      have hr := hRead A (by simp)
      have hd2 := hDig B (by simp)
      have hr2 := hRead B (by simp)
      rw [hA] at hd hr
      rw [hB] at hd2 hr2
      have l1 : ¬ (((List.length [A, B] : Nat) : Int) > 2) := by simp
      have l2 : (0 : Int) < ((List.length [A, B] : Nat) : Int) := by simp
      have l3 : (((List.length [A, B] : Nat) : Int) == 1) = false := rfl
      have l4 : (1 : Int) < ((List.length [A, B] : Nat) : Int) := by simp
      simp only [l1, l2, l3, l4, decide_true, decide_false, if_true, if_false, Bool.false_eq_true, List.getD_cons_zero, List.getD_cons_succ]
      rw [hd, Option.bind_some]
      dsimp only
      cases hok : okN c.1
      · rw [if_pos (show (!false) = true by rfl), if_neg (fun q => by cases q.1)]
      · rw [if_neg (show ¬ ((!true) = true) by decide), hr hok, Option.bind_some]
        dsimp only
        have la := nd_len200 (B := B10) (by decide) (okN_lt hok)
        -- what follows, once the sign fits
        have hrest : ∀ (m : Bool), ¬ (m = true ∧ dv c.1 = 0) → (Option.bind (S.s_l01Digits (B , ())) (fun (w0 : (Bool × Unit)) => (if ((!w0.1) = true) then (some ((rp B10 noQ.1 , noQ.2) , ()))
 else (Option.bind (S.s_l01NatRead (B , ())) (fun (w1 : ((List Int) × Unit)) => (Option.bind (S.s_l01Cmp (w1.1 , (((1 : Int) :: ([] : List Int)) , ()))) (fun (w2 : (Int × Unit)) => (if ((decide (w2.1 ≤ (0 : Int))) = true) then (some ((rp B10 noQ.1 , noQ.2) , ()))
 else (Option.bind (S.s_l01Gcd (nd B10 (dv c.1) , (w1.1 , ()))) (fun (w3 : ((List Int) × Unit)) => (Option.bind (S.s_l01Cmp (w3.1 , (((1 : Int) :: ([] : List Int)) , ()))) (fun (w4 : (Int × Unit)) => (if ((w4.1 != (0 : Int)) = true) then (some ((rp B10 noQ.1 , noQ.2) , ()))
 else (some (((m , (nd B10 (dv c.1) , w1.1)) , true) , ()))))))))))))))) = some ((rp B10 (if okN c.2.1 = true ∧ 1 < dv c.2.1 ∧ Nat.gcd (dv c.1) (dv c.2.1) = 1 then ((m, (dv c.1, dv c.2.1)), true) else noQ).1, (if okN c.2.1 = true ∧ 1 < dv c.2.1 ∧ Nat.gcd (dv c.1) (dv c.2.1) = 1 then ((m, (dv c.1, dv c.2.1)), true) else noQ).2), ()) := by
          intro m hm
          rw [hd2, Option.bind_some]
          dsimp only
          cases hb : okN c.2.1
          · have hx : ¬ ((false : Bool) = true ∧ 1 < dv c.2.1 ∧ Nat.gcd (dv c.1) (dv c.2.1) = 1) := fun q => by cases q.1
            rw [if_pos (show (!false) = true by rfl), if_neg hx]
          · have lb := nd_len200 (B := B10) (by decide) (okN_lt hb)
            rw [if_neg (show ¬ ((!true) = true) by decide), hr2 hb, Option.bind_some]
            dsimp only
            have e1 : S.s_l01Cmp (nd B10 (dv c.2.1), ([1], ())) = some (cmpN (dv c.2.1) 1, ()) := by
              unfold S.s_l01Cmp
              dsimp only
              rw [if_pos ⟨canon_nd B10_le _, canon_one B10_le, by omega⟩, dval_nd B10_le, dval_one]
            have e2 : S.s_l01Gcd (nd B10 (dv c.1), (nd B10 (dv c.2.1), ())) = some (nd B10 (Nat.gcd (dv c.1) (dv c.2.1)), ()) := by
              unfold S.s_l01Gcd
              dsimp only
              rw [if_pos ⟨canon_nd B10_le _, canon_nd B10_le _, by omega, by omega⟩, dval_nd B10_le, dval_nd B10_le]
            rw [e1, Option.bind_some]
            dsimp only
            by_cases h1 : 1 < dv c.2.1
            · have hcm : ¬ (cmpN (dv c.2.1) 1 ≤ 0) := by
                have := (cmpN_gt (a := dv c.2.1) (b := 1)).2 h1
                omega
              have lg : (nd B10 (Nat.gcd (dv c.1) (dv c.2.1))).length ≤ 200 := Nat.le_trans (nd_shorter' B10_le (Nat.le_of_dvd (by omega) (Nat.gcd_dvd_right _ _))) lb
              have e3 : S.s_l01Cmp (nd B10 (Nat.gcd (dv c.1) (dv c.2.1)), ([1], ())) = some (cmpN (Nat.gcd (dv c.1) (dv c.2.1)) 1, ()) := by
                unfold S.s_l01Cmp
                dsimp only
                rw [if_pos ⟨canon_nd B10_le _, canon_one B10_le, by omega⟩, dval_nd B10_le, dval_one]
              rw [if_neg (by simpa using hcm), e2, Option.bind_some]
              dsimp only
              rw [e3, Option.bind_some]
              dsimp only
              by_cases hg : Nat.gcd (dv c.1) (dv c.2.1) = 1
              · rw [if_neg (by simpa using cmpN_zero.2 hg), if_pos ⟨rfl, h1, hg⟩]
                rfl
              · rw [if_pos (by simpa using fun q => hg (cmpN_zero.1 q)), if_neg (fun q => hg q.2.2)]
            · have hcm : cmpN (dv c.2.1) 1 ≤ 0 := by
                have h2 : ¬ (cmpN (dv c.2.1) 1 > 0) := fun q => h1 ((cmpN_gt (a := dv c.2.1) (b := 1)).1 q)
                omega
              rw [if_pos (decide_eq_true hcm), if_neg (fun q => h1 q.2.1)]
        rw [hz]
        cases n
        · have hm : ¬ ((false : Bool) = true ∧ dv c.1 = 0) := fun q => by cases q.1
          rw [if_neg (show ¬ ((false : Bool) = true) by decide), if_pos ⟨rfl, hm⟩]
          exact hrest false hm
        · rw [if_pos rfl]
          by_cases h0 : dv c.1 = 0
          · rw [if_pos (decide_eq_true h0), if_neg (fun q => q.2 ⟨rfl, h0⟩)]
          · have hm : ¬ ((true : Bool) = true ∧ dv c.1 = 0) := fun q => h0 q.2
            rw [if_neg (by simpa using h0), if_pos ⟨rfl, hm⟩]
            exact hrest true hm
    · -- three parts or more
      rw [hf2, if_pos rfl] at hp
      have hl : ps.length = 2 + (pieces 47 (cutP 47 c.2.1).2.1).length := by
        have := congrArg List.length hp
        simp at this
        omega
      have hl2 : (pieces 47 (cutP 47 c.2.1).2.1).length ≠ 0 := fun q => pieces_ne 47 _ (List.eq_nil_of_length_eq_zero q)
      have l1 : ((ps.length : Nat) : Int) > 2 := by omega
      have hx : ¬ (okN c.2.1 = true ∧ 1 < dv c.2.1 ∧ Nat.gcd (dv c.1) (dv c.2.1) = 1) := fun q => by
        have := cutP_allD (okN_allD q.1).1
        rw [hf2] at this
        cases this
      rw [if_pos (decide_eq_true l1), if_pos rfl, if_neg hx]
      split <;> rfl
theorem pp_plain (T : ByteArray) (hsz : T.size ≤ 1000000) :
    (Option.bind (S.s_l01Cut (T , ((47 : Int) , ()))) (fun (z0 : ((List ByteArray) × Unit)) => (if ((decide ((((List.length z0.1) : Nat) : Int) > (2 : Int))) = true) then (some (((false , (([] : List Int) , ([] : List Int))) , false) , ()))
 else (if ((decide ((0 : Int) < (((List.length z0.1) : Nat) : Int))) = true) then (Option.bind (S.s_l01Digits ((List.getD z0.1 (0 : Nat) (Go.Cm.bs [])) , ())) (fun (z1 : (Bool × Unit)) => (if ((!z1.1) = true) then (some (((false , (([] : List Int) , ([] : List Int))) , false) , ()))
 else (if ((decide ((0 : Int) < (((List.length z0.1) : Nat) : Int))) = true) then (Option.bind (S.s_l01NatRead ((List.getD z0.1 (0 : Nat) (Go.Cm.bs [])) , ())) (fun (z2 : ((List Int) × Unit)) => (if (((((List.length z0.1) : Nat) : Int) == (1 : Int)) = true) then (some (((false , (z2.1 , ((1 : Int) :: ([] : List Int)))) , true) , ()))
 else (if ((decide ((1 : Int) < (((List.length z0.1) : Nat) : Int))) = true) then (Option.bind (S.s_l01Digits ((List.getD z0.1 (1 : Nat) (Go.Cm.bs [])) , ())) (fun (z3 : (Bool × Unit)) => (if ((!z3.1) = true) then (some (((false , (([] : List Int) , ([] : List Int))) , false) , ()))
 else (if ((decide ((1 : Int) < (((List.length z0.1) : Nat) : Int))) = true) then (Option.bind (S.s_l01NatRead ((List.getD z0.1 (1 : Nat) (Go.Cm.bs [])) , ())) (fun (z4 : ((List Int) × Unit)) => (Option.bind (S.s_l01Cmp (z4.1 , (((1 : Int) :: ([] : List Int)) , ()))) (fun (z5 : (Int × Unit)) => (if ((decide (z5.1 ≤ (0 : Int))) = true) then (some (((false , (([] : List Int) , ([] : List Int))) , false) , ()))
 else (Option.bind (S.s_l01Gcd (z2.1 , (z4.1 , ()))) (fun (z6 : ((List Int) × Unit)) => (Option.bind (S.s_l01Cmp (z6.1 , (((1 : Int) :: ([] : List Int)) , ()))) (fun (z7 : (Int × Unit)) => (if ((z7.1 != (0 : Int)) = true) then (some (((false , (([] : List Int) , ([] : List Int))) , false) , ()))
 else (some (((false , (z2.1 , z4.1)) , true) , ()))))))))))))
 else none))))
 else none))))
 else none))))
 else none)))) = some ((rp B10 (rdBody false (cutP 47 T.data.toList)).1, (rdBody false (cutP 47 T.data.toList)).2), ()) := by
  have hbad : ((false, (([] : List Int), ([] : List Int))), false) = (rp B10 noQ.1, noQ.2) := by
    unfold noQ rp
    dsimp only
    rw [nd_zero B10_le]
  have hcut : S.s_l01Cut (T, (47, ())) = some ((cutUp T 47 (T.size + 1)).1, ()) := by
    unfold S.s_l01Cut
    exact if_pos hsz
  have hp : (cutUp T 47 (T.size + 1)).1.map (·.data.toList) = pieces 47 T.data.toList := cutUp_pieces T 47
  have hlen : ∀ A ∈ (cutUp T 47 (T.size + 1)).1, A.data.toList.length ≤ 1000000 := by
    intro A hA
    have h1 := pieces_len 47 T.data.toList A.data.toList (by rw [← hp]; exact List.mem_map_of_mem hA)
    have h2 : T.size = T.data.toList.length := by rw [Array.length_toList]; rfl
    omega
  rw [hcut, Option.bind_some, hbad]
  generalize (cutUp T 47 (T.size + 1)).1 = ps at *
  rw [pieces_cutP] at hp
  generalize hc : cutP 47 T.data.toList = c at *
  have hDig : ∀ A ∈ ps, S.s_l01Digits (A, ()) = some (okN A.data.toList, ()) := by
    intro A hA
    have h1 := hlen A hA
    have h2 : A.size = A.data.toList.length := by rw [Array.length_toList]; rfl
    unfold S.s_l01Digits
    exact if_pos (by dsimp only; omega)
  have hRead : ∀ A ∈ ps, okN A.data.toList = true → S.s_l01NatRead (A, ()) = some (nd B10 (dv A.data.toList), ()) := by
    intro A hA hok
    have h1 := okN_allD hok
    unfold S.s_l01NatRead
    exact if_pos ⟨h1.1, by dsimp only; omega⟩
  have hz : ∀ m : Nat, (((nd B10 m).length : Int) == 0) = decide (m = 0) := by
    intro m
    have := canon_nil B10_le (canon_nd B10_le m)
    rw [dval_nd B10_le] at this
    by_cases h0 : m = 0
    · rw [this.2 h0, h0]; rfl
    · have hne := fun q => h0 (this.1 q)
      rw [decide_eq_false h0]
      simpa using hne
  have hone : ([1] : List Int) = nd B10 1 := (nd_one B10_le).symm
  unfold rdBody
  cases hf : c.2.2
  · -- one part
    rw [hf, if_neg (by decide)] at hp
    obtain ⟨A, rfl, hA⟩ : ∃ A, ps = [A] ∧ A.data.toList = c.1 := by
      exact List.map_eq_singleton_iff.1 hp
    have hd := hDig A (by simp)
    have hr := hRead A (by simp)
    rw [hA] at hd hr
    have l1 : ¬ (((List.length [A] : Nat) : Int) > 2) := by simp
    have l2 : (0 : Int) < ((List.length [A] : Nat) : Int) := by simp
    have l3 : (((List.length [A] : Nat) : Int) == 1) = true := rfl
    simp only [l1, l2, l3, decide_true, decide_false, if_true, if_false, Bool.false_eq_true, List.getD_cons_zero]
    rw [hd, Option.bind_some]
    dsimp only
    cases hok : okN c.1
    · rw [if_pos (show (!false) = true by rfl), if_neg (fun q => by cases q.1)]
    · rw [if_neg (show ¬ ((!true) = true) by decide), hr hok, Option.bind_some]
      dsimp only
      rw [if_pos ⟨rfl, fun q => by cases q.1⟩, hone]
      rfl
  · rw [hf, if_pos rfl, pieces_cutP] at hp
    cases hf2 : (cutP 47 c.2.1).2.2
    · rw [hf2, if_neg (by decide)] at hp
      have hy : (cutP 47 c.2.1).1 = c.2.1 := ((cutP_index 47 c.2.1).1 hf2).2.1
      rw [hy] at hp
      obtain ⟨A, B, rfl, hA, hB⟩ : ∃ A B, ps = [A, B] ∧ A.data.toList = c.1 ∧ B.data.toList = c.2.1 := by
        obtain ⟨A, q, rfl, hA, hq⟩ := List.map_eq_cons_iff.1 hp
        obtain ⟨B, rfl, hB⟩ := List.map_eq_singleton_iff.1 hq
        exact ⟨A, B, rfl, hA, hB⟩
      have hd := hDig A (by simp)
      have hr := hRead A (by simp)
      have hd2 := hDig B (by simp)
      have hr2 := hRead B (by simp)
      rw [hA] at hd hr
      rw [hB] at hd2 hr2
      have l1 : ¬ (((List.length [A, B] : Nat) : Int) > 2) := by simp
      have l2 : (0 : Int) < ((List.length [A, B] : Nat) : Int) := by simp
      have l3 : (((List.length [A, B] : Nat) : Int) == 1) = false := rfl
      have l4 : (1 : Int) < ((List.length [A, B] : Nat) : Int) := by simp
      simp only [l1, l2, l3, l4, decide_true, decide_false, if_true, if_false, Bool.false_eq_true, List.getD_cons_zero, List.getD_cons_succ]
      rw [hd, Option.bind_some]
      dsimp only
      cases hok : okN c.1
      · rw [if_pos (show (!false) = true by rfl), if_neg (fun q => by cases q.1)]
      · rw [if_neg (show ¬ ((!true) = true) by decide), hr hok, Option.bind_some]
        dsimp only
        have la := nd_len200 (B := B10) (by decide) (okN_lt hok)
        -- what follows, once the sign fits
        have hrest : ∀ (m : Bool), ¬ (m = true ∧ dv c.1 = 0) → (Option.bind (S.s_l01Digits (B , ())) (fun (w0 : (Bool × Unit)) => (if ((!w0.1) = true) then (some ((rp B10 noQ.1 , noQ.2) , ()))
 else (Option.bind (S.s_l01NatRead (B , ())) (fun (w1 : ((List Int) × Unit)) => (Option.bind (S.s_l01Cmp (w1.1 , (((1 : Int) :: ([] : List Int)) , ()))) (fun (w2 : (Int × Unit)) => (if ((decide (w2.1 ≤ (0 : Int))) = true) then (some ((rp B10 noQ.1 , noQ.2) , ()))
 else (Option.bind (S.s_l01Gcd (nd B10 (dv c.1) , (w1.1 , ()))) (fun (w3 : ((List Int) × Unit)) => (Option.bind (S.s_l01Cmp (w3.1 , (((1 : Int) :: ([] : List Int)) , ()))) (fun (w4 : (Int × Unit)) => (if ((w4.1 != (0 : Int)) = true) then (some ((rp B10 noQ.1 , noQ.2) , ()))
 else (some (((m , (nd B10 (dv c.1) , w1.1)) , true) , ()))))))))))))))) = some ((rp B10 (if okN c.2.1 = true ∧ 1 < dv c.2.1 ∧ Nat.gcd (dv c.1) (dv c.2.1) = 1 then ((m, (dv c.1, dv c.2.1)), true) else noQ).1, (if okN c.2.1 = true ∧ 1 < dv c.2.1 ∧ Nat.gcd (dv c.1) (dv c.2.1) = 1 then ((m, (dv c.1, dv c.2.1)), true) else noQ).2), ()) := by
          intro m hm
          rw [hd2, Option.bind_some]
          dsimp only
          cases hb : okN c.2.1
          · have hx : ¬ ((false : Bool) = true ∧ 1 < dv c.2.1 ∧ Nat.gcd (dv c.1) (dv c.2.1) = 1) := fun q => by cases q.1
            rw [if_pos (show (!false) = true by rfl), if_neg hx]
          · have lb := nd_len200 (B := B10) (by decide) (okN_lt hb)
            rw [if_neg (show ¬ ((!true) = true) by decide), hr2 hb, Option.bind_some]
            dsimp only
            have e1 : S.s_l01Cmp (nd B10 (dv c.2.1), ([1], ())) = some (cmpN (dv c.2.1) 1, ()) := by
              unfold S.s_l01Cmp
              dsimp only
              rw [if_pos ⟨canon_nd B10_le _, canon_one B10_le, by omega⟩, dval_nd B10_le, dval_one]
            have e2 : S.s_l01Gcd (nd B10 (dv c.1), (nd B10 (dv c.2.1), ())) = some (nd B10 (Nat.gcd (dv c.1) (dv c.2.1)), ()) := by
              unfold S.s_l01Gcd
              dsimp only
              rw [if_pos ⟨canon_nd B10_le _, canon_nd B10_le _, by omega, by omega⟩, dval_nd B10_le, dval_nd B10_le]
            rw [e1, Option.bind_some]
            dsimp only
            by_cases h1 : 1 < dv c.2.1
            · have hcm : ¬ (cmpN (dv c.2.1) 1 ≤ 0) := by
                have := (cmpN_gt (a := dv c.2.1) (b := 1)).2 h1
                omega
              have lg : (nd B10 (Nat.gcd (dv c.1) (dv c.2.1))).length ≤ 200 := Nat.le_trans (nd_shorter' B10_le (Nat.le_of_dvd (by omega) (Nat.gcd_dvd_right _ _))) lb
              have e3 : S.s_l01Cmp (nd B10 (Nat.gcd (dv c.1) (dv c.2.1)), ([1], ())) = some (cmpN (Nat.gcd (dv c.1) (dv c.2.1)) 1, ()) := by
                unfold S.s_l01Cmp
                dsimp only
                rw [if_pos ⟨canon_nd B10_le _, canon_one B10_le, by omega⟩, dval_nd B10_le, dval_one]
              rw [if_neg (by simpa using hcm), e2, Option.bind_some]
              dsimp only
              rw [e3, Option.bind_some]
              dsimp only
              by_cases hg : Nat.gcd (dv c.1) (dv c.2.1) = 1
              · rw [if_neg (by simpa using cmpN_zero.2 hg), if_pos ⟨rfl, h1, hg⟩]
                rfl
              · rw [if_pos (by simpa using fun q => hg (cmpN_zero.1 q)), if_neg (fun q => hg q.2.2)]
            · have hcm : cmpN (dv c.2.1) 1 ≤ 0 := by
                have h2 : ¬ (cmpN (dv c.2.1) 1 > 0) := fun q => h1 ((cmpN_gt (a := dv c.2.1) (b := 1)).1 q)
                omega
              rw [if_pos (decide_eq_true hcm), if_neg (fun q => h1 q.2.1)]
        have hm : ¬ ((false : Bool) = true ∧ dv c.1 = 0) := fun q => by cases q.1
        rw [if_pos ⟨rfl, fun q => q.1⟩]
        exact hrest false hm
    · -- three parts or more
      rw [hf2, if_pos rfl] at hp
      have hl : ps.length = 2 + (pieces 47 (cutP 47 c.2.1).2.1).length := by
        have := congrArg List.length hp
        simp at this
        omega
      have hl2 : (pieces 47 (cutP 47 c.2.1).2.1).length ≠ 0 := fun q => pieces_ne 47 _ (List.eq_nil_of_length_eq_zero q)
      have l1 : ((ps.length : Nat) : Int) > 2 := by omega
      have hx : ¬ (okN c.2.1 = true ∧ 1 < dv c.2.1 ∧ Nat.gcd (dv c.1) (dv c.2.1) = 1) := fun q => by
        have := cutP_allD (okN_allD q.1).1
        rw [hf2] at this
        cases this
      rw [if_pos (decide_eq_true l1), if_pos rfl, if_neg hx]
      split <;> rfl
def S.s_l01Parse (x : (ByteArray × Unit)) : (Option (((Bool × ((List Int) × (List Int))) × Bool) × Unit)) := if x.1.size ≤ 1000000 then some ((rp B10 (rdRat x.1.data.toList).1, (rdRat x.1.data.toList).2), ()) else none
theorem S.s_l01Parse_ok (x : (ByteArray × Unit)) (r : _) (h : S.s_l01Parse x = some r) : ∃ k, P.s_l01Parse k x = some r := by
  obtain ⟨s, u⟩ := x
  unfold S.s_l01Parse at h
  dsimp only at h
  split at h
  case isFalse => cases h
  rename_i hsz
  refine ⟨0, ?_⟩
  rw [← h]
  unfold P.s_l01Parse
  dsimp only
  have hs : s.size = s.data.toList.length := by rw [Array.length_toList]; rfl
  unfold rdRat
  by_cases h0 : s.data.toList = []
  · have l1 : ¬ ((s.size : Int) > 0) := by rw [hs, h0]; simp
    rw [if_neg (by simpa using l1), h0, if_neg (by simp), ← h0]
    exact pp_plain s hsz
  · have hpos : 0 < s.data.toList.length := List.length_pos_iff.2 h0
    have l1 : (s.size : Int) > 0 := by omega
    have l2 : (0 : Int) < (s.size : Int) := by omega
    have l3 : (0 : Int) ≤ (s.size : Int) := by omega
    have l4 : (1 : Int) ≤ (s.size : Int) := by omega
    have hb : byteAt s 0 = (s.data.toList[0].toNat : Int) := congrArg (fun c : UInt8 => (c.toNat : Int)) (getD_cast s.data.toList 0 0 hpos)
    have hh : s.data.toList.head? = some s.data.toList[0] := by
      generalize s.data.toList = l at *
      cases l with
      | nil => simp at h0
      | cons c r => rfl
    rw [if_pos (decide_eq_true l1), if_pos (decide_eq_true l2), hh, Int.toNat_natCast]
    by_cases c1 : s.data.toList[0] = 45
    · have hn : (byteAt s 0 == 45) = true := by
        rw [hb, c1]
        rfl
      have hx : (ByteArray.extract s 1 s.size).data.toList = s.data.toList.tail := by
        rw [ext_list, List.take_of_length_le (by omega), List.drop_one]
      have hxs : (ByteArray.extract s 1 s.size).size ≤ 1000000 := by
        have : (ByteArray.extract s 1 s.size).size = (ByteArray.extract s 1 s.size).data.toList.length := by rw [Array.length_toList]; rfl
        rw [this, hx]
        simp
        omega
      rw [hn, if_pos rfl, if_pos (decide_eq_true l3), if_pos (decide_eq_true (Int.le_refl _)), if_pos (decide_eq_true l4), if_pos (by rw [c1])]
      have := pp_sign (ByteArray.extract s 1 s.size) true hxs
      rw [hx] at this
      exact this
    · have hn : (byteAt s 0 == 45) = false := by
        rw [hb, beq_eq_false_iff_ne]
        intro q
        apply c1
        apply UInt8.toNat_inj.1
        show _ = 45
        omega
      rw [hn, if_neg (show ¬ ((false : Bool) = true) by decide), if_neg (by rw [Option.some.injEq]; exact c1)]
      exact pp_sign s false hsz
abbrev P.s_l01List_b0  (x1 : (Int × (Int × ((List ByteArray) × ((List (Bool × ((List Int) × (List Int)))) × Unit))))) (g2 : (Int × (Int × ((List ByteArray) × ((List (Bool × ((List Int) × (List Int)))) × Unit)))) → Option (((List (Bool × ((List Int) × (List Int)))) × Bool) × Unit)) : Option (((List (Bool × ((List Int) × (List Int)))) × Bool) × Unit) :=
 (if ((decide (x1.1 < x1.2.1)) = true) then (if ((decide ((0 : Int) ≤ x1.1)) = true) then (if ((decide (x1.1 < (((List.length x1.2.2.1) : Nat) : Int))) = true) then (Option.bind (S.s_l01Parse ((List.getD x1.2.2.1 (Int.toNat x1.1) (bs [])) , ())) (fun (y3 : (((Bool × ((List Int) × (List Int))) × Bool) × Unit)) => (if ((!y3.1.2) = true) then (some ((([] : List (Bool × ((List Int) × (List Int)))) , false) , ()))
 else (if ((decide ((((List.length x1.2.2.2.1) + (List.length ((y3.1.1.1 , (y3.1.1.2.1 , y3.1.1.2.2)) :: ([] : List (Bool × ((List Int) × (List Int))))))) * (56 : Nat)) ≤ (140737488355328 : Nat))) = true) then (g2 ((Go.IntKind.wrap Go.IntKind.i64 (x1.1 + (1 : Int))) , (x1.2.1 , (x1.2.2.1 , ((x1.2.2.2.1 ++ ((y3.1.1.1 , (y3.1.1.2.1 , y3.1.1.2.2)) :: ([] : List (Bool × ((List Int) × (List Int)))))) , ())))))
 else none))))
 else none)
 else none)
 else (some ((x1.2.2.2.1 , true) , ())))
def P.s_l01List (k : Nat) (x : ((List ByteArray) × Unit)) : (Option (((List (Bool × ((List Int) × (List Int)))) × Bool) × Unit)) :=
 (if ((decide ((((List.length x.1) : Nat) : Int) > (300 : Int))) = true) then (some ((([] : List (Bool × ((List Int) × (List Int)))) , false) , ()))
 else (loopP (X := (Int × (Int × ((List ByteArray) × ((List (Bool × ((List Int) × (List Int)))) × Unit))))) (R := (((List (Bool × ((List Int) × (List Int)))) × Bool) × Unit)) (P.s_l01List_b0 ) k ((0 : Int) , ((((List.length x.1) : Nat) : Int) , (x.1 , (([] : List (Bool × ((List Int) × (List Int)))) , ()))))))
open Classical in
def S.s_l01List (x : ((List ByteArray) × Unit)) : (Option (((List (Bool × ((List Int) × (List Int)))) × Bool) × Unit)) := if okT x.1 = true then some (((rdAll x.1).1.map (rp B10), (rdAll x.1).2), ()) else none
theorem s_l01List_read (s : ByteArray) (h : s.size ≤ 1000000) : S.s_l01Parse (s, ()) = some ((rp B10 (rdRat s.data.toList).1, (rdRat s.data.toList).2), ()) := by
  unfold S.s_l01Parse
  exact if_pos (by dsimp only; omega)
theorem S.s_l01List_ok (x : ((List ByteArray) × Unit)) (r : _) (h : S.s_l01List x = some r) : ∃ k, P.s_l01List k x = some r := by
  obtain ⟨ls, u⟩ := x
  unfold S.s_l01List at h
  dsimp only at h
  split at h
  case isFalse => cases h
  rename_i hc
  cases h
  refine ⟨ls.length + 1, ?_⟩
  unfold P.s_l01List rdAll
  dsimp only
  by_cases hl : (ls.length : Int) > 300
  · rw [if_pos (decide_eq_true hl), if_neg (show ¬ (ls.length ≤ 300 ∧ (ls.all fun s => (rdRat s.data.toList).2) = true) from fun z => by omega)]
    rfl
  rw [if_neg (by simpa using hl)]
  have key := loop_up0 (k := ls.length + 1) (b := P.s_l01List_b0) (n := ls.length) (st := fun i => ((i : Int), (ls.length : Int), ls, (ls.take i).map (fun s => rp B10 (rdRat s.data.toList).1), ())) (F := fun i => some (if ((ls.drop i).all fun s => (rdRat s.data.toList).2) = true then (ls.map (fun s => rp B10 (rdRat s.data.toList).1), true) else ([], false), ())) (fun i g hi hg => by
    unfold P.s_l01List_b0
    dsimp only at hg ⊢
    have e1 : (i : Int) < (ls.length : Int) := by omega
    have e2 : (0 : Int) ≤ (i : Int) := by omega
    simp only [e1, e2, decide_true, if_true]
    rw [getD_cast ls i _ hi, s_l01List_read _ (okT_get hc hi), Option.bind_some, List.drop_eq_getElem_cons hi, List.all_cons]
    dsimp only
    cases hf : (rdRat ls[i].data.toList).2
    · rw [if_pos (by rfl), if_neg (by simp)]
    · rw [if_neg (by simp), wr (by omega) (by omega), Bool.true_and, ← hg]
      have e3 : ((List.map (fun s : ByteArray => rp B10 (rdRat s.data.toList).1) (ls.take i)).length + 1) * 56 ≤ 140737488355328 := by
        rw [List.length_map, List.length_take]
        omega
      simp only [List.length_cons, List.length_nil, Nat.zero_add]
      rw [if_pos (decide_eq_true e3), List.take_add_one, List.getElem?_eq_getElem hi, Option.toList_some, List.map_append]
      rfl) (fun g => by
    unfold P.s_l01List_b0
    dsimp only
    rw [if_neg (by simp), List.take_length, List.drop_length]
    rfl) (by omega)
  refine key.trans ?_
  rw [List.drop_zero]
  by_cases ha : (ls.all fun s => (rdRat s.data.toList).2) = true
  · rw [if_pos ha, if_pos (show ls.length ≤ 300 ∧ (ls.all fun s => (rdRat s.data.toList).2) = true from ⟨by omega, ha⟩), List.map_map]
    rfl
  · rw [if_neg ha, if_neg (fun z => ha z.2)]
    rfl
def P.s_l01Read (k : Nat) (x : (ByteArray × Unit)) : (Option (((List ByteArray) × Bool) × Unit)) :=
 (if (((ByteArray.toList x.1) == (ByteArray.toList (bs [110, 111, 110, 101]))) = true) then (some ((([] : List ByteArray) , true) , ()))
 else (Option.bind (S.s_l01Cut (x.1 , ((44 : Int) , ()))) (fun (y0 : ((List ByteArray) × Unit)) => (Option.bind (S.s_l01List (y0.1 , ())) (fun (y1 : (((List (Bool × ((List Int) × (List Int)))) × Bool) × Unit)) => (if ((!y1.1.2) = true) then (some ((([] : List ByteArray) , false) , ()))
 else (some ((y0.1 , true) , ()))))))))
def S.s_l01Read (x : (ByteArray × Unit)) : (Option (((List ByteArray) × Bool) × Unit)) := if x.1.size ≤ 1000000 then some (if (rdAll (partsOf x.1)).2 = true then (partsOf x.1, true) else ([], false), ()) else none
theorem S.s_l01Read_ok (x : (ByteArray × Unit)) (r : _) (h : S.s_l01Read x = some r) : ∃ k, P.s_l01Read k x = some r := by
  obtain ⟨s, u⟩ := x
  unfold S.s_l01Read at h
  dsimp only at h
  split at h
  case isFalse => cases h
  rename_i hc
  cases h
  refine ⟨0, ?_⟩
  unfold P.s_l01Read
  dsimp only
  by_cases hn : s.data.toList = [110, 111, 110, 101]
  · have hp : partsOf s = [] := by
      unfold partsOf
      rw [if_pos hn]
    rw [if_pos ((noneB s).2 hn), hp]
    rfl
  · have hp : partsOf s = cutL s := by
      unfold partsOf
      rw [if_neg hn]
    obtain ⟨h1, h2⟩ := partsOf_ok s hc
    have e1 : S.s_l01Cut (s, (44, ())) = some (partsOf s, ()) := by
      unfold S.s_l01Cut
      dsimp only
      rw [if_pos hc, hp]
      have := cutL_of (cutUp_pieces s 44)
      rw [show ((44 : UInt8).toNat : Int) = 44 from rfl] at this
      rw [this]
    rw [if_neg (fun q => hn ((noneB s).1 q)), e1, Option.bind_some]
    dsimp only
    have e2 : S.s_l01List (partsOf s, ()) = some (((rdAll (partsOf s)).1.map (rp B10), (rdAll (partsOf s)).2), ()) := by
      unfold S.s_l01List
      exact if_pos h1
    rw [e2, Option.bind_some]
    dsimp only
    cases (rdAll (partsOf s)).2 <;> rfl
def P.s_ReadFractions (k : Nat) (x : (ByteArray × Unit)) : (Option (((List ByteArray) × Bool) × Unit)) :=
 (Option.bind (S.s_l01Read (x.1 , ())) (fun (y0 : (((List ByteArray) × Bool) × Unit)) => (some ((y0.1.1 , y0.1.2) , ()))))
def S.s_ReadFractions (x : (ByteArray × Unit)) : (Option (((List ByteArray) × Bool) × Unit)) := P.s_ReadFractions 0 x
theorem S.s_ReadFractions_ok (x : (ByteArray × Unit)) (r : _) (h : S.s_ReadFractions x = some r) : ∃ k, P.s_ReadFractions k x = some r := ⟨0, h⟩
def P.l_FnExactReadFractions (k : Nat) (x : (ByteArray × Unit)) : (Option (Bool × Unit)) :=
 (if ((decide ((((ByteArray.size x.1) : Nat) : Int) > (1000000 : Int))) = true) then (some (true , ()))
 else (Option.bind (S.s_ReadFractions (x.1 , ())) (fun (y0 : (((List ByteArray) × Bool) × Unit)) => (Option.bind (S.i_ReadFractions (x.1 , ())) (fun (y1 : (((List ByteArray) × Bool) × Unit)) => (Option.bind (S.l_eqStringS (y1.1.1 , (y0.1.1 , ()))) (fun (y2 : (Bool × Unit)) => (if ((!y2.1) = true) then (some (false , ()))
 else (if ((!(y1.1.2 == y0.1.2)) = true) then (some (false , ()))
 else (Option.bind (S.l_markStringS (y1.1.1 , ((101 : Int) , ()))) (fun (y3 : (Int × ((List ByteArray) × Unit))) => (Option.bind (S.l_heldStringS ((splice y1.1.1 y3.2.1 (0 : Nat)) , ((101 : Int) , ()))) (fun (y4 : (Int × Unit)) => (if ((decide (y4.1 < (0 : Int))) = true) then (some (false , ()))
 else (if ((y4.1 != y3.1) = true) then (some (false , ()))
 else (Option.bind (S.i_ReadFractions (x.1 , ())) (fun (y5 : (((List ByteArray) × Bool) × Unit)) => (Option.bind (S.l_eqStringS (y5.1.1 , (y0.1.1 , ()))) (fun (y6 : (Bool × Unit)) => (if ((!y6.1) = true) then (some (false , ()))
 else (if ((!(y5.1.2 == y0.1.2)) = true) then (some (false , ()))
 else (Option.bind (S.l_heldStringS ((splice y1.1.1 y3.2.1 (0 : Nat)) , ((101 : Int) , ()))) (fun (y7 : (Int × Unit)) => (if ((decide (y7.1 < (0 : Int))) = true) then (some (false , ()))
 else (if ((y7.1 != y3.1) = true) then (some (false , ()))
 else (some (true , ())))))))))))))))))))))))))))
def S.l_FnExactReadFractions (x : (ByteArray × Unit)) : (Option (Bool × Unit)) := P.l_FnExactReadFractions 0 x
theorem S.l_FnExactReadFractions_ok (x : (ByteArray × Unit)) (r : _) (h : S.l_FnExactReadFractions x = some r) : ∃ k, P.l_FnExactReadFractions k x = some r := ⟨0, h⟩
end Go.Cm
end
