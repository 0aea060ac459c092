import Derived.Test.YtlnejaehiangnaaGreatDoorPlUpTimesa
set_option linter.unusedVariables false
set_option maxRecDepth 100000
noncomputable section
namespace Go.Cm
def P.s_l01Parse (k : Nat) (x : (ByteArray × Unit)) : (Option (((Bool × ((List Int) × (List Int))) × Bool) × Unit)) :=
 (if ((decide ((((ByteArray.size x.1) : Nat) : Int) > (0 : Int))) = true) then (if ((decide ((0 : Int) < (((ByteArray.size x.1) : Nat) : Int))) = true) then (if (((byteAt x.1 (0 : Int)) == (45 : Int)) = true) then (if ((decide ((0 : Int) ≤ (((ByteArray.size x.1) : Nat) : Int))) = true) then (if ((decide ((((ByteArray.size x.1) : Nat) : Int) ≤ (((ByteArray.size x.1) : Nat) : Int))) = true) then (if ((decide ((1 : Int) ≤ (((ByteArray.size x.1) : Nat) : Int))) = true) then (Option.bind (S.s_l01Cut ((ByteArray.extract x.1 (1 : Nat) (Int.toNat (((ByteArray.size x.1) : Nat) : Int))) , ((47 : Int) , ()))) (fun (y0 : ((List ByteArray) × Unit)) => (if ((decide ((((List.length y0.1) : Nat) : Int) > (2 : Int))) = true) then (some (((false , (([] : List Int) , ([] : List Int))) , false) , ()))
 else (if ((decide ((0 : Int) < (((List.length y0.1) : Nat) : Int))) = true) then (Option.bind (S.s_l01Digits ((List.getD y0.1 (0 : Nat) (bs [])) , ())) (fun (y1 : (Bool × Unit)) => (if ((!y1.1) = true) then (some (((false , (([] : List Int) , ([] : List Int))) , false) , ()))
 else (if ((decide ((0 : Int) < (((List.length y0.1) : Nat) : Int))) = true) then (Option.bind (S.s_l01NatRead ((List.getD y0.1 (0 : Nat) (bs [])) , ())) (fun (y2 : ((List Int) × Unit)) => (if (((byteAt x.1 (0 : Int)) == (45 : Int)) = true) then (if (((((List.length y2.1) : Nat) : Int) == (0 : Int)) = true) then (some (((false , (([] : List Int) , ([] : List Int))) , false) , ()))
 else (if (((((List.length y0.1) : Nat) : Int) == (1 : Int)) = true) then (some (((((byteAt x.1 (0 : Int)) == (45 : Int)) , (y2.1 , ((1 : Int) :: ([] : List Int)))) , true) , ()))
 else (if ((decide ((1 : Int) < (((List.length y0.1) : Nat) : Int))) = true) then (Option.bind (S.s_l01Digits ((List.getD y0.1 (1 : Nat) (bs [])) , ())) (fun (y3 : (Bool × Unit)) => (if ((!y3.1) = true) then (some (((false , (([] : List Int) , ([] : List Int))) , false) , ()))
 else (if ((decide ((1 : Int) < (((List.length y0.1) : Nat) : Int))) = true) then (Option.bind (S.s_l01NatRead ((List.getD y0.1 (1 : Nat) (bs [])) , ())) (fun (y4 : ((List Int) × Unit)) => (Option.bind (S.s_l01Cmp (y4.1 , (((1 : Int) :: ([] : List Int)) , ()))) (fun (y5 : (Int × Unit)) => (if ((decide (y5.1 ≤ (0 : Int))) = true) then (some (((false , (([] : List Int) , ([] : List Int))) , false) , ()))
 else (Option.bind (S.s_l01Gcd (y2.1 , (y4.1 , ()))) (fun (y6 : ((List Int) × Unit)) => (Option.bind (S.s_l01Cmp (y6.1 , (((1 : Int) :: ([] : List Int)) , ()))) (fun (y7 : (Int × Unit)) => (if ((y7.1 != (0 : Int)) = true) then (some (((false , (([] : List Int) , ([] : List Int))) , false) , ()))
 else (some (((((byteAt x.1 (0 : Int)) == (45 : Int)) , (y2.1 , y4.1)) , true) , ()))))))))))))
 else none))))
 else none)))
 else (if (((((List.length y0.1) : Nat) : Int) == (1 : Int)) = true) then (some (((((byteAt x.1 (0 : Int)) == (45 : Int)) , (y2.1 , ((1 : Int) :: ([] : List Int)))) , true) , ()))
 else (if ((decide ((1 : Int) < (((List.length y0.1) : Nat) : Int))) = true) then (Option.bind (S.s_l01Digits ((List.getD y0.1 (1 : Nat) (bs [])) , ())) (fun (y8 : (Bool × Unit)) => (if ((!y8.1) = true) then (some (((false , (([] : List Int) , ([] : List Int))) , false) , ()))
 else (if ((decide ((1 : Int) < (((List.length y0.1) : Nat) : Int))) = true) then (Option.bind (S.s_l01NatRead ((List.getD y0.1 (1 : Nat) (bs [])) , ())) (fun (y9 : ((List Int) × Unit)) => (Option.bind (S.s_l01Cmp (y9.1 , (((1 : Int) :: ([] : List Int)) , ()))) (fun (y10 : (Int × Unit)) => (if ((decide (y10.1 ≤ (0 : Int))) = true) then (some (((false , (([] : List Int) , ([] : List Int))) , false) , ()))
 else (Option.bind (S.s_l01Gcd (y2.1 , (y9.1 , ()))) (fun (y11 : ((List Int) × Unit)) => (Option.bind (S.s_l01Cmp (y11.1 , (((1 : Int) :: ([] : List Int)) , ()))) (fun (y12 : (Int × Unit)) => (if ((y12.1 != (0 : Int)) = true) then (some (((false , (([] : List Int) , ([] : List Int))) , false) , ()))
 else (some (((((byteAt x.1 (0 : Int)) == (45 : Int)) , (y2.1 , y9.1)) , true) , ()))))))))))))
 else none))))
 else none)))))
 else none))))
 else none))))
 else none)
 else none)
 else none)
 else (Option.bind (S.s_l01Cut (x.1 , ((47 : Int) , ()))) (fun (y13 : ((List ByteArray) × Unit)) => (if ((decide ((((List.length y13.1) : Nat) : Int) > (2 : Int))) = true) then (some (((false , (([] : List Int) , ([] : List Int))) , false) , ()))
 else (if ((decide ((0 : Int) < (((List.length y13.1) : Nat) : Int))) = true) then (Option.bind (S.s_l01Digits ((List.getD y13.1 (0 : Nat) (bs [])) , ())) (fun (y14 : (Bool × Unit)) => (if ((!y14.1) = true) then (some (((false , (([] : List Int) , ([] : List Int))) , false) , ()))
 else (if ((decide ((0 : Int) < (((List.length y13.1) : Nat) : Int))) = true) then (Option.bind (S.s_l01NatRead ((List.getD y13.1 (0 : Nat) (bs [])) , ())) (fun (y15 : ((List Int) × Unit)) => (if (((byteAt x.1 (0 : Int)) == (45 : Int)) = true) then (if (((((List.length y15.1) : Nat) : Int) == (0 : Int)) = true) then (some (((false , (([] : List Int) , ([] : List Int))) , false) , ()))
 else (if (((((List.length y13.1) : Nat) : Int) == (1 : Int)) = true) then (some (((((byteAt x.1 (0 : Int)) == (45 : Int)) , (y15.1 , ((1 : Int) :: ([] : List Int)))) , true) , ()))
 else (if ((decide ((1 : Int) < (((List.length y13.1) : Nat) : Int))) = true) then (Option.bind (S.s_l01Digits ((List.getD y13.1 (1 : Nat) (bs [])) , ())) (fun (y16 : (Bool × Unit)) => (if ((!y16.1) = true) then (some (((false , (([] : List Int) , ([] : List Int))) , false) , ()))
 else (if ((decide ((1 : Int) < (((List.length y13.1) : Nat) : Int))) = true) then (Option.bind (S.s_l01NatRead ((List.getD y13.1 (1 : Nat) (bs [])) , ())) (fun (y17 : ((List Int) × Unit)) => (Option.bind (S.s_l01Cmp (y17.1 , (((1 : Int) :: ([] : List Int)) , ()))) (fun (y18 : (Int × Unit)) => (if ((decide (y18.1 ≤ (0 : Int))) = true) then (some (((false , (([] : List Int) , ([] : List Int))) , false) , ()))
 else (Option.bind (S.s_l01Gcd (y15.1 , (y17.1 , ()))) (fun (y19 : ((List Int) × Unit)) => (Option.bind (S.s_l01Cmp (y19.1 , (((1 : Int) :: ([] : List Int)) , ()))) (fun (y20 : (Int × Unit)) => (if ((y20.1 != (0 : Int)) = true) then (some (((false , (([] : List Int) , ([] : List Int))) , false) , ()))
 else (some (((((byteAt x.1 (0 : Int)) == (45 : Int)) , (y15.1 , y17.1)) , true) , ()))))))))))))
 else none))))
 else none)))
 else (if (((((List.length y13.1) : Nat) : Int) == (1 : Int)) = true) then (some (((((byteAt x.1 (0 : Int)) == (45 : Int)) , (y15.1 , ((1 : Int) :: ([] : List Int)))) , true) , ()))
 else (if ((decide ((1 : Int) < (((List.length y13.1) : Nat) : Int))) = true) then (Option.bind (S.s_l01Digits ((List.getD y13.1 (1 : Nat) (bs [])) , ())) (fun (y21 : (Bool × Unit)) => (if ((!y21.1) = true) then (some (((false , (([] : List Int) , ([] : List Int))) , false) , ()))
 else (if ((decide ((1 : Int) < (((List.length y13.1) : Nat) : Int))) = true) then (Option.bind (S.s_l01NatRead ((List.getD y13.1 (1 : Nat) (bs [])) , ())) (fun (y22 : ((List Int) × Unit)) => (Option.bind (S.s_l01Cmp (y22.1 , (((1 : Int) :: ([] : List Int)) , ()))) (fun (y23 : (Int × Unit)) => (if ((decide (y23.1 ≤ (0 : Int))) = true) then (some (((false , (([] : List Int) , ([] : List Int))) , false) , ()))
 else (Option.bind (S.s_l01Gcd (y15.1 , (y22.1 , ()))) (fun (y24 : ((List Int) × Unit)) => (Option.bind (S.s_l01Cmp (y24.1 , (((1 : Int) :: ([] : List Int)) , ()))) (fun (y25 : (Int × Unit)) => (if ((y25.1 != (0 : Int)) = true) then (some (((false , (([] : List Int) , ([] : List Int))) , false) , ()))
 else (some (((((byteAt x.1 (0 : Int)) == (45 : Int)) , (y15.1 , y22.1)) , true) , ()))))))))))))
 else none))))
 else none)))))
 else none))))
 else none)))))
 else none)
 else (Option.bind (S.s_l01Cut (x.1 , ((47 : Int) , ()))) (fun (y26 : ((List ByteArray) × Unit)) => (if ((decide ((((List.length y26.1) : Nat) : Int) > (2 : Int))) = true) then (some (((false , (([] : List Int) , ([] : List Int))) , false) , ()))
 else (if ((decide ((0 : Int) < (((List.length y26.1) : Nat) : Int))) = true) then (Option.bind (S.s_l01Digits ((List.getD y26.1 (0 : Nat) (bs [])) , ())) (fun (y27 : (Bool × Unit)) => (if ((!y27.1) = true) then (some (((false , (([] : List Int) , ([] : List Int))) , false) , ()))
 else (if ((decide ((0 : Int) < (((List.length y26.1) : Nat) : Int))) = true) then (Option.bind (S.s_l01NatRead ((List.getD y26.1 (0 : Nat) (bs [])) , ())) (fun (y28 : ((List Int) × Unit)) => (if (((((List.length y26.1) : Nat) : Int) == (1 : Int)) = true) then (some (((false , (y28.1 , ((1 : Int) :: ([] : List Int)))) , true) , ()))
 else (if ((decide ((1 : Int) < (((List.length y26.1) : Nat) : Int))) = true) then (Option.bind (S.s_l01Digits ((List.getD y26.1 (1 : Nat) (bs [])) , ())) (fun (y29 : (Bool × Unit)) => (if ((!y29.1) = true) then (some (((false , (([] : List Int) , ([] : List Int))) , false) , ()))
 else (if ((decide ((1 : Int) < (((List.length y26.1) : Nat) : Int))) = true) then (Option.bind (S.s_l01NatRead ((List.getD y26.1 (1 : Nat) (bs [])) , ())) (fun (y30 : ((List Int) × Unit)) => (Option.bind (S.s_l01Cmp (y30.1 , (((1 : Int) :: ([] : List Int)) , ()))) (fun (y31 : (Int × Unit)) => (if ((decide (y31.1 ≤ (0 : Int))) = true) then (some (((false , (([] : List Int) , ([] : List Int))) , false) , ()))
 else (Option.bind (S.s_l01Gcd (y28.1 , (y30.1 , ()))) (fun (y32 : ((List Int) × Unit)) => (Option.bind (S.s_l01Cmp (y32.1 , (((1 : Int) :: ([] : List Int)) , ()))) (fun (y33 : (Int × Unit)) => (if ((y33.1 != (0 : Int)) = true) then (some (((false , (([] : List Int) , ([] : List Int))) , false) , ()))
 else (some (((false , (y28.1 , y30.1)) , true) , ()))))))))))))
 else none))))
 else none))))
 else none))))
 else none)))))
theorem pp_sign (T : ByteArray) (n : Bool) (hsz : T.size ≤ 1000000) :
    (Option.bind (S.s_l01Cut (T , ((47 : Int) , ()))) (fun (z0 : ((List ByteArray) × Unit)) => (if ((decide ((((List.length z0.1) : Nat) : Int) > (2 : Int))) = true) then (some (((false , (([] : List Int) , ([] : List Int))) , false) , ()))
 else (if ((decide ((0 : Int) < (((List.length z0.1) : Nat) : Int))) = true) then (Option.bind (S.s_l01Digits ((List.getD z0.1 (0 : Nat) (Go.Cm.bs [])) , ())) (fun (z1 : (Bool × Unit)) => (if ((!z1.1) = true) then (some (((false , (([] : List Int) , ([] : List Int))) , false) , ()))
 else (if ((decide ((0 : Int) < (((List.length z0.1) : Nat) : Int))) = true) then (Option.bind (S.s_l01NatRead ((List.getD z0.1 (0 : Nat) (Go.Cm.bs [])) , ())) (fun (z2 : ((List Int) × Unit)) => (if (n = true) then (if (((((List.length z2.1) : Nat) : Int) == (0 : Int)) = true) then (some (((false , (([] : List Int) , ([] : List Int))) , false) , ()))
 else (if (((((List.length z0.1) : Nat) : Int) == (1 : Int)) = true) then (some (((n , (z2.1 , ((1 : Int) :: ([] : List Int)))) , true) , ()))
 else (if ((decide ((1 : Int) < (((List.length z0.1) : Nat) : Int))) = true) then (Option.bind (S.s_l01Digits ((List.getD z0.1 (1 : Nat) (Go.Cm.bs [])) , ())) (fun (z3 : (Bool × Unit)) => (if ((!z3.1) = true) then (some (((false , (([] : List Int) , ([] : List Int))) , false) , ()))
 else (if ((decide ((1 : Int) < (((List.length z0.1) : Nat) : Int))) = true) then (Option.bind (S.s_l01NatRead ((List.getD z0.1 (1 : Nat) (Go.Cm.bs [])) , ())) (fun (z4 : ((List Int) × Unit)) => (Option.bind (S.s_l01Cmp (z4.1 , (((1 : Int) :: ([] : List Int)) , ()))) (fun (z5 : (Int × Unit)) => (if ((decide (z5.1 ≤ (0 : Int))) = true) then (some (((false , (([] : List Int) , ([] : List Int))) , false) , ()))
 else (Option.bind (S.s_l01Gcd (z2.1 , (z4.1 , ()))) (fun (z6 : ((List Int) × Unit)) => (Option.bind (S.s_l01Cmp (z6.1 , (((1 : Int) :: ([] : List Int)) , ()))) (fun (z7 : (Int × Unit)) => (if ((z7.1 != (0 : Int)) = true) then (some (((false , (([] : List Int) , ([] : List Int))) , false) , ()))
 else (some (((n , (z2.1 , z4.1)) , true) , ()))))))))))))
 else none))))
 else none)))
 else (if (((((List.length z0.1) : Nat) : Int) == (1 : Int)) = true) then (some (((n , (z2.1 , ((1 : Int) :: ([] : List Int)))) , true) , ()))
 else (if ((decide ((1 : Int) < (((List.length z0.1) : Nat) : Int))) = true) then (Option.bind (S.s_l01Digits ((List.getD z0.1 (1 : Nat) (Go.Cm.bs [])) , ())) (fun (z8 : (Bool × Unit)) => (if ((!z8.1) = true) then (some (((false , (([] : List Int) , ([] : List Int))) , false) , ()))
 else (if ((decide ((1 : Int) < (((List.length z0.1) : Nat) : Int))) = true) then (Option.bind (S.s_l01NatRead ((List.getD z0.1 (1 : Nat) (Go.Cm.bs [])) , ())) (fun (z9 : ((List Int) × Unit)) => (Option.bind (S.s_l01Cmp (z9.1 , (((1 : Int) :: ([] : List Int)) , ()))) (fun (z10 : (Int × Unit)) => (if ((decide (z10.1 ≤ (0 : Int))) = true) then (some (((false , (([] : List Int) , ([] : List Int))) , false) , ()))
 else (Option.bind (S.s_l01Gcd (z2.1 , (z9.1 , ()))) (fun (z11 : ((List Int) × Unit)) => (Option.bind (S.s_l01Cmp (z11.1 , (((1 : Int) :: ([] : List Int)) , ()))) (fun (z12 : (Int × Unit)) => (if ((z12.1 != (0 : Int)) = true) then (some (((false , (([] : List Int) , ([] : List Int))) , false) , ()))
 else (some (((n , (z2.1 , z9.1)) , true) , ()))))))))))))
 else none))))
 else none)))))
 else none))))
 else none)))) = some ((rp B10 (rdBody n (cutP 47 T.data.toList)).1, (rdBody n (cutP 47 T.data.toList)).2), ()) := by
  have hbad : ((false, (([] : List Int), ([] : List Int))), false) = (rp B10 noQ.1, noQ.2) := by
    unfold noQ rp
    dsimp only
    rw [nd_zero B10_le]
  have hcut : S.s_l01Cut (T, (47, ())) = some ((cutUp T 47 (T.size + 1)).1, ()) := by
    unfold S.s_l01Cut
    exact if_pos hsz
  have hp : (cutUp T 47 (T.size + 1)).1.map (·.data.toList) = pieces 47 T.data.toList := cutUp_pieces T 47
  have hlen : ∀ A ∈ (cutUp T 47 (T.size + 1)).1, A.data.toList.length ≤ 1000000 := by
    intro A hA
    have h1 := pieces_len 47 T.data.toList A.data.toList (by rw [← hp]; exact List.mem_map_of_mem hA)
    have h2 : T.size = T.data.toList.length := by rw [Array.length_toList]; rfl
    omega
  rw [hcut, Option.bind_some, hbad]
  generalize (cutUp T 47 (T.size + 1)).1 = ps at *
  rw [pieces_cutP] at hp
  generalize hc : cutP 47 T.data.toList = c at *
  have hDig : ∀ A ∈ ps, S.s_l01Digits (A, ()) = some (okN A.data.toList, ()) := by
    intro A hA
    have h1 := hlen A hA
    have h2 : A.size = A.data.toList.length := by rw [Array.length_toList]; rfl
    unfold S.s_l01Digits
    exact if_pos (by dsimp only; omega)
  have hRead : ∀ A ∈ ps, okN A.data.toList = true → S.s_l01NatRead (A, ()) = some (nd B10 (dv A.data.toList), ()) := by
    intro A hA hok
    have h1 := okN_allD hok
    unfold S.s_l01NatRead
    exact if_pos ⟨h1.1, by dsimp only; omega⟩
  have hz : ∀ m : Nat, (((nd B10 m).length : Int) == 0) = decide (m = 0) := by
    intro m
    have := canon_nil B10_le (canon_nd B10_le m)
    rw [dval_nd B10_le] at this
    by_cases h0 : m = 0
    · rw [this.2 h0, h0]; rfl
    · have hne := fun q => h0 (this.1 q)
      rw [decide_eq_false h0]
      simpa using hne
  have hone : ([1] : List Int) = nd B10 1 := (nd_one B10_le).symm
  unfold rdBody
  cases hf : c.2.2
  · -- one part
    rw [hf, if_neg (by decide)] at hp
    obtain ⟨A, rfl, hA⟩ : ∃ A, ps = [A] ∧ A.data.toList = c.1 := by
      exact List.map_eq_singleton_iff.1 hp
    have hd := hDig A (by simp)
    have hr := hRead A (by simp)
    rw [hA] at hd hr
    have l1 : ¬ (((List.length [A] : Nat) : Int) > 2) := by simp
    have l2 : (0 : Int) < ((List.length [A] : Nat) : Int) := by simp
    have l3 : (((List.length [A] : Nat) : Int) == 1) = true := rfl
    simp only [l1, l2, l3, decide_true, decide_false, if_true, if_false, Bool.false_eq_true, List.getD_cons_zero]
    rw [hd, Option.bind_some]
    dsimp only
    cases hok : okN c.1
    · rw [if_pos (show (!false) = true by rfl), if_neg (fun q => by cases q.1)]
    · rw [if_neg (show ¬ ((!true) = true) by decide), hr hok, Option.bind_some]
      dsimp only
      rw [hz]
      cases n
      · rw [if_neg (show ¬ ((false : Bool) = true) by decide), if_pos ⟨rfl, fun q => by cases q.1⟩, hone]
        rfl
      · rw [if_pos rfl]
        by_cases h0 : dv c.1 = 0
        · rw [if_pos (decide_eq_true h0), if_neg (fun q => q.2 ⟨rfl, h0⟩)]
        · rw [if_neg (by simpa using h0), if_pos ⟨rfl, fun q => h0 q.2⟩, hone]
          rfl
  · rw [hf, if_pos rfl, pieces_cutP] at hp
    cases hf2 : (cutP 47 c.2.1).2.2
    · rw [hf2, if_neg (by decide)] at hp
      have hy : (cutP 47 c.2.1).1 = c.2.1 := ((cutP_index 47 c.2.1).1 hf2).2.1
      rw [hy] at hp
      obtain ⟨A, B, rfl, hA, hB⟩ : ∃ A B, ps = [A, B] ∧ A.data.toList = c.1 ∧ B.data.toList = c.2.1 := by
        obtain ⟨A, q, rfl, hA, hq⟩ := List.map_eq_cons_iff.1 hp
        obtain ⟨B, rfl, hB⟩ := List.map_eq_singleton_iff.1 hq
        exact ⟨A, B, rfl, hA, hB⟩
      have hd := hDig A (by simp)
      have hr := hRead A (by simp)
      have hd2 := hDig B (by simp)
      have hr2 := hRead B (by simp)
      rw [hA] at hd hr
      rw [hB] at hd2 hr2
      have l1 : ¬ (((List.length [A, B] : Nat) : Int) > 2) := by simp
      have l2 : (0 : Int) < ((List.length [A, B] : Nat) : Int) := by simp
      have l3 : (((List.length [A, B] : Nat) : Int) == 1) = false := rfl
      have l4 : (1 : Int) < ((List.length [A, B] : Nat) : Int) := by simp
      simp only [l1, l2, l3, l4, decide_true, decide_false, if_true, if_false, Bool.false_eq_true, List.getD_cons_zero, List.getD_cons_succ]
      rw [hd, Option.bind_some]
      dsimp only
      cases hok : okN c.1
      · rw [if_pos (show (!false) = true by rfl), if_neg (fun q => by cases q.1)]
      · rw [if_neg (show ¬ ((!true) = true) by decide), hr hok, Option.bind_some]
        dsimp only
        have la := nd_len200 (B := B10) (by decide) (okN_lt hok)
        -- what follows, once the sign fits
        have hrest : ∀ (m : Bool), ¬ (m = true ∧ dv c.1 = 0) → (Option.bind (S.s_l01Digits (B , ())) (fun (w0 : (Bool × Unit)) => (if ((!w0.1) = true) then (some ((rp B10 noQ.1 , noQ.2) , ()))
 else (Option.bind (S.s_l01NatRead (B , ())) (fun (w1 : ((List Int) × Unit)) => (Option.bind (S.s_l01Cmp (w1.1 , (((1 : Int) :: ([] : List Int)) , ()))) (fun (w2 : (Int × Unit)) => (if ((decide (w2.1 ≤ (0 : Int))) = true) then (some ((rp B10 noQ.1 , noQ.2) , ()))
 else (Option.bind (S.s_l01Gcd (nd B10 (dv c.1) , (w1.1 , ()))) (fun (w3 : ((List Int) × Unit)) => (Option.bind (S.s_l01Cmp (w3.1 , (((1 : Int) :: ([] : List Int)) , ()))) (fun (w4 : (Int × Unit)) => (if ((w4.1 != (0 : Int)) = true) then (some ((rp B10 noQ.1 , noQ.2) , ()))
 else (some (((m , (nd B10 (dv c.1) , w1.1)) , true) , ()))))))))))))))) = some ((rp B10 (if okN c.2.1 = true ∧ 1 < dv c.2.1 ∧ Nat.gcd (dv c.1) (dv c.2.1) = 1 then ((m, (dv c.1, dv c.2.1)), true) else noQ).1, (if okN c.2.1 = true ∧ 1 < dv c.2.1 ∧ Nat.gcd (dv c.1) (dv c.2.1) = 1 then ((m, (dv c.1, dv c.2.1)), true) else noQ).2), ()) := by
          intro m hm
          rw [hd2, Option.bind_some]
          dsimp only
          cases hb : okN c.2.1
          · have hx : ¬ ((false : Bool) = true ∧ 1 < dv c.2.1 ∧ Nat.gcd (dv c.1) (dv c.2.1) = 1) := fun q => by cases q.1
            rw [if_pos (show (!false) = true by rfl), if_neg hx]
          · have lb := nd_len200 (B := B10) (by decide) (okN_lt hb)
            rw [if_neg (show ¬ ((!true) = true) by decide), hr2 hb, Option.bind_some]
            dsimp only
            have e1 : S.s_l01Cmp (nd B10 (dv c.2.1), ([1], ())) = some (cmpN (dv c.2.1) 1, ()) := by
              unfold S.s_l01Cmp
              dsimp only
              rw [if_pos ⟨canon_nd B10_le _, canon_one B10_le, by omega⟩, dval_nd B10_le, dval_one]
            have e2 : S.s_l01Gcd (nd B10 (dv c.1), (nd B10 (dv c.2.1), ())) = some (nd B10 (Nat.gcd (dv c.1) (dv c.2.1)), ()) := by
              unfold S.s_l01Gcd
              dsimp only
              rw [if_pos ⟨canon_nd B10_le _, canon_nd B10_le _, by omega, by omega⟩, dval_nd B10_le, dval_nd B10_le]
            rw [e1, Option.bind_some]
            dsimp only
            by_cases h1 : 1 < dv c.2.1
            · have hcm : ¬ (cmpN (dv c.2.1) 1 ≤ 0) := by
                have := (cmpN_gt (a := dv c.2.1) (b := 1)).2 h1
                omega
              have lg : (nd B10 (Nat.gcd (dv c.1) (dv c.2.1))).length ≤ 200 := Nat.le_trans (nd_shorter' B10_le (Nat.le_of_dvd (by omega) (Nat.gcd_dvd_right _ _))) lb
              have e3 : S.s_l01Cmp (nd B10 (Nat.gcd (dv c.1) (dv c.2.1)), ([1], ())) = some (cmpN (Nat.gcd (dv c.1) (dv c.2.1)) 1, ()) := by
                unfold S.s_l01Cmp
                dsimp only
                rw [if_pos ⟨canon_nd B10_le _, canon_one B10_le, by omega⟩, dval_nd B10_le, dval_one]
              rw [if_neg (by simpa using hcm), e2, Option.bind_some]
              dsimp only
              rw [e3, Option.bind_some]
              dsimp only
              by_cases hg : Nat.gcd (dv c.1) (dv c.2.1) = 1
              · rw [if_neg (by simpa using cmpN_zero.2 hg), if_pos ⟨rfl, h1, hg⟩]
                rfl
              · rw [if_pos (by simpa using fun q => hg (cmpN_zero.1 q)), if_neg (fun q => hg q.2.2)]
            · have hcm : cmpN (dv c.2.1) 1 ≤ 0 := by
                have h2 : ¬ (cmpN (dv c.2.1) 1 > 0) := fun q => h1 ((cmpN_gt (a := dv c.2.1) (b := 1)).1 q)
                omega
              rw [if_pos (decide_eq_true hcm), if_neg (fun q => h1 q.2.1)]
        rw [hz]
        cases n
        · have hm : ¬ ((false : Bool) = true ∧ dv c.1 = 0) := fun q => by cases q.1
          rw [if_neg (show ¬ ((false : Bool) = true) by decide), if_pos ⟨rfl, hm⟩]
          exact hrest false hm
        · rw [if_pos rfl]
          by_cases h0 : dv c.1 = 0
          · rw [if_pos (decide_eq_true h0), if_neg (fun q => q.2 ⟨rfl, h0⟩)]
          · have hm : ¬ ((true : Bool) = true ∧ dv c.1 = 0) := fun q => h0 q.2
            rw [if_neg (by simpa using h0), if_pos ⟨rfl, hm⟩]
            exact hrest true hm
    · -- three parts or more
      rw [hf2, if_pos rfl] at hp
      have hl : ps.length = 2 + (pieces 47 (cutP 47 c.2.1).2.1).length := by
        have := congrArg List.length hp
        simp at this
        omega
      have hl2 : (pieces 47 (cutP 47 c.2.1).2.1).length ≠ 0 := fun q => pieces_ne 47 _ (List.eq_nil_of_length_eq_zero q)
      have l1 : ((ps.length : Nat) : Int) > 2 := by omega
      have hx : ¬ (okN c.2.1 = true ∧ 1 < dv c.2.1 ∧ Nat.gcd (dv c.1) (dv c.2.1) = 1) := fun q => by
        have := cutP_allD (okN_allD q.1).1
        rw [hf2] at this
        cases this
      rw [if_pos (decide_eq_true l1), if_pos rfl, if_neg hx]
      split <;> rfl
theorem pp_plain (T : ByteArray) (hsz : T.size ≤ 1000000) :
    (Option.bind (S.s_l01Cut (T , ((47 : Int) , ()))) (fun (z0 : ((List ByteArray) × Unit)) => (if ((decide ((((List.length z0.1) : Nat) : Int) > (2 : Int))) = true) then (some (((false , (([] : List Int) , ([] : List Int))) , false) , ()))
 else (if ((decide ((0 : Int) < (((List.length z0.1) : Nat) : Int))) = true) then (Option.bind (S.s_l01Digits ((List.getD z0.1 (0 : Nat) (Go.Cm.bs [])) , ())) (fun (z1 : (Bool × Unit)) => (if ((!z1.1) = true) then (some (((false , (([] : List Int) , ([] : List Int))) , false) , ()))
 else (if ((decide ((0 : Int) < (((List.length z0.1) : Nat) : Int))) = true) then (Option.bind (S.s_l01NatRead ((List.getD z0.1 (0 : Nat) (Go.Cm.bs [])) , ())) (fun (z2 : ((List Int) × Unit)) => (if (((((List.length z0.1) : Nat) : Int) == (1 : Int)) = true) then (some (((false , (z2.1 , ((1 : Int) :: ([] : List Int)))) , true) , ()))
 else (if ((decide ((1 : Int) < (((List.length z0.1) : Nat) : Int))) = true) then (Option.bind (S.s_l01Digits ((List.getD z0.1 (1 : Nat) (Go.Cm.bs [])) , ())) (fun (z3 : (Bool × Unit)) => (if ((!z3.1) = true) then (some (((false , (([] : List Int) , ([] : List Int))) , false) , ()))
 else (if ((decide ((1 : Int) < (((List.length z0.1) : Nat) : Int))) = true) then (Option.bind (S.s_l01NatRead ((List.getD z0.1 (1 : Nat) (Go.Cm.bs [])) , ())) (fun (z4 : ((List Int) × Unit)) => (Option.bind (S.s_l01Cmp (z4.1 , (((1 : Int) :: ([] : List Int)) , ()))) (fun (z5 : (Int × Unit)) => (if ((decide (z5.1 ≤ (0 : Int))) = true) then (some (((false , (([] : List Int) , ([] : List Int))) , false) , ()))
 else (Option.bind (S.s_l01Gcd (z2.1 , (z4.1 , ()))) (fun (z6 : ((List Int) × Unit)) => (Option.bind (S.s_l01Cmp (z6.1 , (((1 : Int) :: ([] : List Int)) , ()))) (fun (z7 : (Int × Unit)) => (if ((z7.1 != (0 : Int)) = true) then (some (((false , (([] : List Int) , ([] : List Int))) , false) , ()))
 else (some (((false , (z2.1 , z4.1)) , true) , ()))))))))))))
 else none))))
 else none))))
 else none))))
 else none)))) = some ((rp B10 (rdBody false (cutP 47 T.data.toList)).1, (rdBody false (cutP 47 T.data.toList)).2), ()) := by
  have hbad : ((false, (([] : List Int), ([] : List Int))), false) = (rp B10 noQ.1, noQ.2) := by
    unfold noQ rp
    dsimp only
    rw [nd_zero B10_le]
  have hcut : S.s_l01Cut (T, (47, ())) = some ((cutUp T 47 (T.size + 1)).1, ()) := by
    unfold S.s_l01Cut
    exact if_pos hsz
  have hp : (cutUp T 47 (T.size + 1)).1.map (·.data.toList) = pieces 47 T.data.toList := cutUp_pieces T 47
  have hlen : ∀ A ∈ (cutUp T 47 (T.size + 1)).1, A.data.toList.length ≤ 1000000 := by
    intro A hA
    have h1 := pieces_len 47 T.data.toList A.data.toList (by rw [← hp]; exact List.mem_map_of_mem hA)
    have h2 : T.size = T.data.toList.length := by rw [Array.length_toList]; rfl
    omega
  rw [hcut, Option.bind_some, hbad]
  generalize (cutUp T 47 (T.size + 1)).1 = ps at *
  rw [pieces_cutP] at hp
  generalize hc : cutP 47 T.data.toList = c at *
  have hDig : ∀ A ∈ ps, S.s_l01Digits (A, ()) = some (okN A.data.toList, ()) := by
    intro A hA
    have h1 := hlen A hA
    have h2 : A.size = A.data.toList.length := by rw [Array.length_toList]; rfl
    unfold S.s_l01Digits
    exact if_pos (by dsimp only; omega)
  have hRead : ∀ A ∈ ps, okN A.data.toList = true → S.s_l01NatRead (A, ()) = some (nd B10 (dv A.data.toList), ()) := by
    intro A hA hok
    have h1 := okN_allD hok
    unfold S.s_l01NatRead
    exact if_pos ⟨h1.1, by dsimp only; omega⟩
  have hz : ∀ m : Nat, (((nd B10 m).length : Int) == 0) = decide (m = 0) := by
    intro m
    have := canon_nil B10_le (canon_nd B10_le m)
    rw [dval_nd B10_le] at this
    by_cases h0 : m = 0
    · rw [this.2 h0, h0]; rfl
    · have hne := fun q => h0 (this.1 q)
      rw [decide_eq_false h0]
      simpa using hne
  have hone : ([1] : List Int) = nd B10 1 := (nd_one B10_le).symm
  unfold rdBody
  cases hf : c.2.2
  · -- one part
    rw [hf, if_neg (by decide)] at hp
    obtain ⟨A, rfl, hA⟩ : ∃ A, ps = [A] ∧ A.data.toList = c.1 := by
      exact List.map_eq_singleton_iff.1 hp
    have hd := hDig A (by simp)
    have hr := hRead A (by simp)
    rw [hA] at hd hr
    have l1 : ¬ (((List.length [A] : Nat) : Int) > 2) := by simp
    have l2 : (0 : Int) < ((List.length [A] : Nat) : Int) := by simp
    have l3 : (((List.length [A] : Nat) : Int) == 1) = true := rfl
    simp only [l1, l2, l3, decide_true, decide_false, if_true, if_false, Bool.false_eq_true, List.getD_cons_zero]
    rw [hd, Option.bind_some]
    dsimp only
    cases hok : okN c.1
    · rw [if_pos (show (!false) = true by rfl), if_neg (fun q => by cases q.1)]
    · rw [if_neg (show ¬ ((!true) = true) by decide), hr hok, Option.bind_some]
      dsimp only
      rw [if_pos ⟨rfl, fun q => by cases q.1⟩, hone]
      rfl
  · rw [hf, if_pos rfl, pieces_cutP] at hp
    cases hf2 : (cutP 47 c.2.1).2.2
    · rw [hf2, if_neg (by decide)] at hp
      have hy : (cutP 47 c.2.1).1 = c.2.1 := ((cutP_index 47 c.2.1).1 hf2).2.1
      rw [hy] at hp
      obtain ⟨A, B, rfl, hA, hB⟩ : ∃ A B, ps = [A, B] ∧ A.data.toList = c.1 ∧ B.data.toList = c.2.1 := by
        obtain ⟨A, q, rfl, hA, hq⟩ := List.map_eq_cons_iff.1 hp
        obtain ⟨B, rfl, hB⟩ := List.map_eq_singleton_iff.1 hq
        exact ⟨A, B, rfl, hA, hB⟩
      have hd := hDig A (by simp)
      have hr := hRead A (by simp)
      have hd2 := hDig B (by simp)
      have hr2 := hRead B (by simp)
      rw [hA] at hd hr
      rw [hB] at hd2 hr2
      have l1 : ¬ (((List.length [A, B] : Nat) : Int) > 2) := by simp
      have l2 : (0 : Int) < ((List.length [A, B] : Nat) : Int) := by simp
      have l3 : (((List.length [A, B] : Nat) : Int) == 1) = false := rfl
      have l4 : (1 : Int) < ((List.length [A, B] : Nat) : Int) := by simp
      simp only [l1, l2, l3, l4, decide_true, decide_false, if_true, if_false, Bool.false_eq_true, List.getD_cons_zero, List.getD_cons_succ]
      rw [hd, Option.bind_some]
      dsimp only
      cases hok : okN c.1
      · rw [if_pos (show (!false) = true by rfl), if_neg (fun q => by cases q.1)]
      · rw [if_neg (show ¬ ((!true) = true) by decide), hr hok, Option.bind_some]
        dsimp only
        have la := nd_len200 (B := B10) (by decide) (okN_lt hok)
        -- what follows, once the sign fits
        have hrest : ∀ (m : Bool), ¬ (m = true ∧ dv c.1 = 0) → (Option.bind (S.s_l01Digits (B , ())) (fun (w0 : (Bool × Unit)) => (if ((!w0.1) = true) then (some ((rp B10 noQ.1 , noQ.2) , ()))
 else (Option.bind (S.s_l01NatRead (B , ())) (fun (w1 : ((List Int) × Unit)) => (Option.bind (S.s_l01Cmp (w1.1 , (((1 : Int) :: ([] : List Int)) , ()))) (fun (w2 : (Int × Unit)) => (if ((decide (w2.1 ≤ (0 : Int))) = true) then (some ((rp B10 noQ.1 , noQ.2) , ()))
 else (Option.bind (S.s_l01Gcd (nd B10 (dv c.1) , (w1.1 , ()))) (fun (w3 : ((List Int) × Unit)) => (Option.bind (S.s_l01Cmp (w3.1 , (((1 : Int) :: ([] : List Int)) , ()))) (fun (w4 : (Int × Unit)) => (if ((w4.1 != (0 : Int)) = true) then (some ((rp B10 noQ.1 , noQ.2) , ()))
 else (some (((m , (nd B10 (dv c.1) , w1.1)) , true) , ()))))))))))))))) = some ((rp B10 (if okN c.2.1 = true ∧ 1 < dv c.2.1 ∧ Nat.gcd (dv c.1) (dv c.2.1) = 1 then ((m, (dv c.1, dv c.2.1)), true) else noQ).1, (if okN c.2.1 = true ∧ 1 < dv c.2.1 ∧ Nat.gcd (dv c.1) (dv c.2.1) = 1 then ((m, (dv c.1, dv c.2.1)), true) else noQ).2), ()) := by
          intro m hm
          rw [hd2, Option.bind_some]
          dsimp only
          cases hb : okN c.2.1
          · have hx : ¬ ((false : Bool) = true ∧ 1 < dv c.2.1 ∧ Nat.gcd (dv c.1) (dv c.2.1) = 1) := fun q => by cases q.1
            rw [if_pos (show (!false) = true by rfl), if_neg hx]
          · have lb := nd_len200 (B := B10) (by decide) (okN_lt hb)
            rw [if_neg (show ¬ ((!true) = true) by decide), hr2 hb, Option.bind_some]
            dsimp only
            have e1 : S.s_l01Cmp (nd B10 (dv c.2.1), ([1], ())) = some (cmpN (dv c.2.1) 1, ()) := by
              unfold S.s_l01Cmp
              dsimp only
              rw [if_pos ⟨canon_nd B10_le _, canon_one B10_le, by omega⟩, dval_nd B10_le, dval_one]
            have e2 : S.s_l01Gcd (nd B10 (dv c.1), (nd B10 (dv c.2.1), ())) = some (nd B10 (Nat.gcd (dv c.1) (dv c.2.1)), ()) := by
              unfold S.s_l01Gcd
              dsimp only
              rw [if_pos ⟨canon_nd B10_le _, canon_nd B10_le _, by omega, by omega⟩, dval_nd B10_le, dval_nd B10_le]
            rw [e1, Option.bind_some]
            dsimp only
            by_cases h1 : 1 < dv c.2.1
            · have hcm : ¬ (cmpN (dv c.2.1) 1 ≤ 0) := by
                have := (cmpN_gt (a := dv c.2.1) (b := 1)).2 h1
                omega
              have lg : (nd B10 (Nat.gcd (dv c.1) (dv c.2.1))).length ≤ 200 := Nat.le_trans (nd_shorter' B10_le (Nat.le_of_dvd (by omega) (Nat.gcd_dvd_right _ _))) lb
              have e3 : S.s_l01Cmp (nd B10 (Nat.gcd (dv c.1) (dv c.2.1)), ([1], ())) = some (cmpN (Nat.gcd (dv c.1) (dv c.2.1)) 1, ()) := by
                unfold S.s_l01Cmp
                dsimp only
                rw [if_pos ⟨canon_nd B10_le _, canon_one B10_le, by omega⟩, dval_nd B10_le, dval_one]
              rw [if_neg (by simpa using hcm), e2, Option.bind_some]
              dsimp only
              rw [e3, Option.bind_some]
              dsimp only
              by_cases hg : Nat.gcd (dv c.1) (dv c.2.1) = 1
              · rw [if_neg (by simpa using cmpN_zero.2 hg), if_pos ⟨rfl, h1, hg⟩]
                rfl
              · rw [if_pos (by simpa using fun q => hg (cmpN_zero.1 q)), if_neg (fun q => hg q.2.2)]
            · have hcm : cmpN (dv c.2.1) 1 ≤ 0 := by
                have h2 : ¬ (cmpN (dv c.2.1) 1 > 0) := fun q => h1 ((cmpN_gt (a := dv c.2.1) (b := 1)).1 q)
                omega
              rw [if_pos (decide_eq_true hcm), if_neg (fun q => h1 q.2.1)]
        have hm : ¬ ((false : Bool) = true ∧ dv c.1 = 0) := fun q => by cases q.1
        rw [if_pos ⟨rfl, fun q => q.1⟩]
        exact hrest false hm
    · -- three parts or more
      rw [hf2, if_pos rfl] at hp
      have hl : ps.length = 2 + (pieces 47 (cutP 47 c.2.1).2.1).length := by
        have := congrArg List.length hp
        simp at this
        omega
      have hl2 : (pieces 47 (cutP 47 c.2.1).2.1).length ≠ 0 := fun q => pieces_ne 47 _ (List.eq_nil_of_length_eq_zero q)
      have l1 : ((ps.length : Nat) : Int) > 2 := by omega
      have hx : ¬ (okN c.2.1 = true ∧ 1 < dv c.2.1 ∧ Nat.gcd (dv c.1) (dv c.2.1) = 1) := fun q => by
        have := cutP_allD (okN_allD q.1).1
        rw [hf2] at this
        cases this
      rw [if_pos (decide_eq_true l1), if_pos rfl, if_neg hx]
      split <;> rfl
def S.s_l01Parse (x : (ByteArray × Unit)) : (Option (((Bool × ((List Int) × (List Int))) × Bool) × Unit)) := if x.1.size ≤ 1000000 then some ((rp B10 (rdRat x.1.data.toList).1, (rdRat x.1.data.toList).2), ()) else none
theorem S.s_l01Parse_ok (x : (ByteArray × Unit)) (r : _) (h : S.s_l01Parse x = some r) : ∃ k, P.s_l01Parse k x = some r := by
  obtain ⟨s, u⟩ := x
  unfold S.s_l01Parse at h
  dsimp only at h
  split at h
  case isFalse => cases h
  rename_i hsz
  refine ⟨0, ?_⟩
  rw [← h]
  unfold P.s_l01Parse
  dsimp only
  have hs : s.size = s.data.toList.length := by rw [Array.length_toList]; rfl
  unfold rdRat
  by_cases h0 : s.data.toList = []
  · have l1 : ¬ ((s.size : Int) > 0) := by rw [hs, h0]; simp
    rw [if_neg (by simpa using l1), h0, if_neg (by simp), ← h0]
    exact pp_plain s hsz
  · have hpos : 0 < s.data.toList.length := List.length_pos_iff.2 h0
    have l1 : (s.size : Int) > 0 := by omega
    have l2 : (0 : Int) < (s.size : Int) := by omega
    have l3 : (0 : Int) ≤ (s.size : Int) := by omega
    have l4 : (1 : Int) ≤ (s.size : Int) := by omega
    have hb : byteAt s 0 = (s.data.toList[0].toNat : Int) := congrArg (fun c : UInt8 => (c.toNat : Int)) (getD_cast s.data.toList 0 0 hpos)
    have hh : s.data.toList.head? = some s.data.toList[0] := by
      generalize s.data.toList = l at *
      cases l with
      | nil => simp at h0
      | cons c r => rfl
    rw [if_pos (decide_eq_true l1), if_pos (decide_eq_true l2), hh, Int.toNat_natCast]
    by_cases c1 : s.data.toList[0] = 45
    · have hn : (byteAt s 0 == 45) = true := by
        rw [hb, c1]
        rfl
      have hx : (ByteArray.extract s 1 s.size).data.toList = s.data.toList.tail := by
        rw [ext_list, List.take_of_length_le (by omega), List.drop_one]
      have hxs : (ByteArray.extract s 1 s.size).size ≤ 1000000 := by
        have : (ByteArray.extract s 1 s.size).size = (ByteArray.extract s 1 s.size).data.toList.length := by rw [Array.length_toList]; rfl
        rw [this, hx]
        simp
        omega
      rw [hn, if_pos rfl, if_pos (decide_eq_true l3), if_pos (decide_eq_true (Int.le_refl _)), if_pos (decide_eq_true l4), if_pos (by rw [c1])]
      have := pp_sign (ByteArray.extract s 1 s.size) true hxs
      rw [hx] at this
      exact this
    · have hn : (byteAt s 0 == 45) = false := by
        rw [hb, beq_eq_false_iff_ne]
        intro q
        apply c1
        apply UInt8.toNat_inj.1
        show _ = 45
        omega
      rw [hn, if_neg (show ¬ ((false : Bool) = true) by decide), if_neg (by rw [Option.some.injEq]; exact c1)]
      exact pp_sign s false hsz
abbrev P.s_l01List_b0  (x1 : (Int × (Int × ((List ByteArray) × ((List (Bool × ((List Int) × (List Int)))) × Unit))))) (g2 : (Int × (Int × ((List ByteArray) × ((List (Bool × ((List Int) × (List Int)))) × Unit)))) → Option (((List (Bool × ((List Int) × (List Int)))) × Bool) × Unit)) : Option (((List (Bool × ((List Int) × (List Int)))) × Bool) × Unit) :=
 (if ((decide (x1.1 < x1.2.1)) = true) then (if ((decide ((0 : Int) ≤ x1.1)) = true) then (if ((decide (x1.1 < (((List.length x1.2.2.1) : Nat) : Int))) = true) then (Option.bind (S.s_l01Parse ((List.getD x1.2.2.1 (Int.toNat x1.1) (bs [])) , ())) (fun (y3 : (((Bool × ((List Int) × (List Int))) × Bool) × Unit)) => (if ((!y3.1.2) = true) then (some ((([] : List (Bool × ((List Int) × (List Int)))) , false) , ()))
 else (if ((decide ((((List.length x1.2.2.2.1) + (List.length ((y3.1.1.1 , (y3.1.1.2.1 , y3.1.1.2.2)) :: ([] : List (Bool × ((List Int) × (List Int))))))) * (56 : Nat)) ≤ (140737488355328 : Nat))) = true) then (g2 ((Go.IntKind.wrap Go.IntKind.i64 (x1.1 + (1 : Int))) , (x1.2.1 , (x1.2.2.1 , ((x1.2.2.2.1 ++ ((y3.1.1.1 , (y3.1.1.2.1 , y3.1.1.2.2)) :: ([] : List (Bool × ((List Int) × (List Int)))))) , ())))))
 else none))))
 else none)
 else none)
 else (some ((x1.2.2.2.1 , true) , ())))
def P.s_l01List (k : Nat) (x : ((List ByteArray) × Unit)) : (Option (((List (Bool × ((List Int) × (List Int)))) × Bool) × Unit)) :=
 (if ((decide ((((List.length x.1) : Nat) : Int) > (300 : Int))) = true) then (some ((([] : List (Bool × ((List Int) × (List Int)))) , false) , ()))
 else (loopP (X := (Int × (Int × ((List ByteArray) × ((List (Bool × ((List Int) × (List Int)))) × Unit))))) (R := (((List (Bool × ((List Int) × (List Int)))) × Bool) × Unit)) (P.s_l01List_b0 ) k ((0 : Int) , ((((List.length x.1) : Nat) : Int) , (x.1 , (([] : List (Bool × ((List Int) × (List Int)))) , ()))))))
open Classical in
def S.s_l01List (x : ((List ByteArray) × Unit)) : (Option (((List (Bool × ((List Int) × (List Int)))) × Bool) × Unit)) := if okT x.1 = true then some (((rdAll x.1).1.map (rp B10), (rdAll x.1).2), ()) else none
theorem s_l01List_read (s : ByteArray) (h : s.size ≤ 1000000) : S.s_l01Parse (s, ()) = some ((rp B10 (rdRat s.data.toList).1, (rdRat s.data.toList).2), ()) := by
  unfold S.s_l01Parse
  exact if_pos (by dsimp only; omega)
theorem S.s_l01List_ok (x : ((List ByteArray) × Unit)) (r : _) (h : S.s_l01List x = some r) : ∃ k, P.s_l01List k x = some r := by
  obtain ⟨ls, u⟩ := x
  unfold S.s_l01List at h
  dsimp only at h
  split at h
  case isFalse => cases h
  rename_i hc
  cases h
  refine ⟨ls.length + 1, ?_⟩
  unfold P.s_l01List rdAll
  dsimp only
  by_cases hl : (ls.length : Int) > 300
  · rw [if_pos (decide_eq_true hl), if_neg (show ¬ (ls.length ≤ 300 ∧ (ls.all fun s => (rdRat s.data.toList).2) = true) from fun z => by omega)]
    rfl
  rw [if_neg (by simpa using hl)]
  have key := loop_up0 (k := ls.length + 1) (b := P.s_l01List_b0) (n := ls.length) (st := fun i => ((i : Int), (ls.length : Int), ls, (ls.take i).map (fun s => rp B10 (rdRat s.data.toList).1), ())) (F := fun i => some (if ((ls.drop i).all fun s => (rdRat s.data.toList).2) = true then (ls.map (fun s => rp B10 (rdRat s.data.toList).1), true) else ([], false), ())) (fun i g hi hg => by
    unfold P.s_l01List_b0
    dsimp only at hg ⊢
    have e1 : (i : Int) < (ls.length : Int) := by omega
    have e2 : (0 : Int) ≤ (i : Int) := by omega
    simp only [e1, e2, decide_true, if_true]
    rw [getD_cast ls i _ hi, s_l01List_read _ (okT_get hc hi), Option.bind_some, List.drop_eq_getElem_cons hi, List.all_cons]
    dsimp only
    cases hf : (rdRat ls[i].data.toList).2
    · rw [if_pos (by rfl), if_neg (by simp)]
    · rw [if_neg (by simp), wr (by omega) (by omega), Bool.true_and, ← hg]
      have e3 : ((List.map (fun s : ByteArray => rp B10 (rdRat s.data.toList).1) (ls.take i)).length + 1) * 56 ≤ 140737488355328 := by
        rw [List.length_map, List.length_take]
        omega
      simp only [List.length_cons, List.length_nil, Nat.zero_add]
      rw [if_pos (decide_eq_true e3), List.take_add_one, List.getElem?_eq_getElem hi, Option.toList_some, List.map_append]
      rfl) (fun g => by
    unfold P.s_l01List_b0
    dsimp only
    rw [if_neg (by simp), List.take_length, List.drop_length]
    rfl) (by omega)
  refine key.trans ?_
  rw [List.drop_zero]
  by_cases ha : (ls.all fun s => (rdRat s.data.toList).2) = true
  · rw [if_pos ha, if_pos (show ls.length ≤ 300 ∧ (ls.all fun s => (rdRat s.data.toList).2) = true from ⟨by omega, ha⟩), List.map_map]
    rfl
  · rw [if_neg ha, if_neg (fun z => ha z.2)]
    rfl
def P.s_l01Zero (k : Nat) (x : ((Bool × ((List Int) × (List Int))) × Unit)) : (Option (Bool × Unit)) :=
 (some (((((List.length x.1.2.1) : Nat) : Int) == (0 : Int)) , ()))
def S.s_l01Zero (x : ((Bool × ((List Int) × (List Int))) × Unit)) : (Option (Bool × Unit)) := P.s_l01Zero 0 x
theorem S.s_l01Zero_ok (x : ((Bool × ((List Int) × (List Int))) × Unit)) (r : _) (h : S.s_l01Zero x = some r) : ∃ k, P.s_l01Zero k x = some r := ⟨0, h⟩
def P.s_l01Neg (k : Nat) (x : ((Bool × ((List Int) × (List Int))) × Unit)) : (Option (Bool × Unit)) :=
 (some (x.1.1 , ()))
def S.s_l01Neg (x : ((Bool × ((List Int) × (List Int))) × Unit)) : (Option (Bool × Unit)) := P.s_l01Neg 0 x
theorem S.s_l01Neg_ok (x : ((Bool × ((List Int) × (List Int))) × Unit)) (r : _) (h : S.s_l01Neg x = some r) : ∃ k, P.s_l01Neg k x = some r := ⟨0, h⟩
abbrev P.s_l02Above_b0  (x1 : (Int × ((List (Bool × ((List Int) × (List Int)))) × Unit))) (g2 : (Int × ((List (Bool × ((List Int) × (List Int)))) × Unit)) → Option (Bool × Unit)) : Option (Bool × Unit) :=
 (if ((decide (x1.1 < (((List.length x1.2.1) : Nat) : Int))) = true) then (if ((decide ((0 : Int) ≤ x1.1)) = true) then (if ((decide (x1.1 < (((List.length x1.2.1) : Nat) : Int))) = true) then (Option.bind (S.s_l01Zero (((List.getD x1.2.1 (Int.toNat x1.1) (false , (([] : List Int) , ([] : List Int)))).1 , ((List.getD x1.2.1 (Int.toNat x1.1) (false , (([] : List Int) , ([] : List Int)))).2.1 , (List.getD x1.2.1 (Int.toNat x1.1) (false , (([] : List Int) , ([] : List Int)))).2.2)) , ())) (fun (y3 : (Bool × Unit)) => (if (y3.1 = true) then (some (false , ()))
 else (if ((decide ((0 : Int) ≤ x1.1)) = true) then (if ((decide (x1.1 < (((List.length x1.2.1) : Nat) : Int))) = true) then (Option.bind (S.s_l01Neg (((List.getD x1.2.1 (Int.toNat x1.1) (false , (([] : List Int) , ([] : List Int)))).1 , ((List.getD x1.2.1 (Int.toNat x1.1) (false , (([] : List Int) , ([] : List Int)))).2.1 , (List.getD x1.2.1 (Int.toNat x1.1) (false , (([] : List Int) , ([] : List Int)))).2.2)) , ())) (fun (y4 : (Bool × Unit)) => (if (y4.1 = true) then (some (false , ()))
 else (g2 ((Go.IntKind.wrap Go.IntKind.i64 (x1.1 + (1 : Int))) , (x1.2.1 , ()))))))
 else none)
 else none))))
 else none)
 else none)
 else (some (true , ())))
def P.s_l02Above (k : Nat) (x : ((List (Bool × ((List Int) × (List Int)))) × Unit)) : (Option (Bool × Unit)) :=
 (loopP (X := (Int × ((List (Bool × ((List Int) × (List Int)))) × Unit))) (R := (Bool × Unit)) (P.s_l02Above_b0 ) k ((0 : Int) , (x.1 , ())))
theorem sp_zero (r : Q3) : S.s_l01Zero (rp B10 r, ()) = some (decide (r.2.1 = 0), ()) := by
  unfold S.s_l01Zero P.s_l01Zero rp
  dsimp only
  by_cases h : r.2.1 = 0
  · rw [h, nd_zero B10_le]
    rfl
  · have := List.length_pos_iff.2 (nd_ne B10_le h)
    simp [h]
    exact nd_ne B10_le h
open Classical in
def S.s_l02Above (x : ((List (Bool × ((List Int) × (List Int)))) × Unit)) : (Option (Bool × Unit)) := if goodL B10 x.1 then some (ratesB (x.1.map (rv B10)), ()) else none
theorem S.s_l02Above_ok (x : ((List (Bool × ((List Int) × (List Int)))) × Unit)) (r : _) (h : S.s_l02Above x = some r) : ∃ k, P.s_l02Above k x = some r := by
  obtain ⟨xs, u⟩ := x
  unfold S.s_l02Above at h
  dsimp only at h
  split at h
  case isFalse => cases h
  rename_i hc
  cases h
  obtain ⟨qs, n, rfl, hg⟩ := hc
  have hlen := good_len hg
  refine ⟨qs.length + 1, ?_⟩
  unfold P.s_l02Above
  dsimp only
  have key := loop_up0 (k := qs.length + 1) (b := P.s_l02Above_b0) (n := qs.length) (st := fun i => ((i : Int), qs.map (rp B10), ())) (F := fun i => some (ratesB (qs.drop i), ())) (fun i g hi hg' => by
    unfold P.s_l02Above_b0
    dsimp only at hg' ⊢
    have e2 : (0 : Int) ≤ (i : Int) := by omega
    have e3 : (i : Int) < ((qs.map (rp B10)).length : Int) := by rw [List.length_map]; omega
    simp only [e2, e3, decide_true, if_true]
    rw [getD_cast (qs.map (rp B10)) i _ (by rw [List.length_map]; exact hi), List.getElem_map]
    have hr := good_get (B := B10) (by decide) hg hi
    rw [lowb_iff, rv_rp B10_le] at hr
    have hz : S.s_l01Zero (rp B10 qs[i], ()) = some (decide (qs[i].2.1 = 0), ()) := sp_zero _
    have hn : S.s_l01Neg (rp B10 qs[i], ()) = some (qs[i].1, ()) := rfl
    show Option.bind (S.s_l01Zero (rp B10 qs[i], ())) _ = _
    rw [hz, Option.bind_some, List.drop_eq_getElem_cons hi]
    unfold ratesB at hg' ⊢
    rw [List.all_cons]
    dsimp only
    have hp : posQ qs[i] = (!qs[i].1 && decide (qs[i].2.1 ≠ 0)) := rfl
    by_cases h0 : qs[i].2.1 = 0
    · rw [if_pos (decide_eq_true h0), hp]
      simp [h0]
    · rw [if_neg (by simpa using h0)]
      show Option.bind (S.s_l01Neg (rp B10 qs[i], ())) _ = _
      rw [hn, Option.bind_some, hp]
      dsimp only
      cases hs : qs[i].1
      · rw [if_neg (by decide), wr (by omega) (by omega), decide_eq_true h0]
        exact hg'
      · rfl) (fun g => by
    unfold P.s_l02Above_b0
    dsimp only
    rw [if_neg (by simp), List.drop_length]
    rfl) (by omega)
  rw [map_rv B10_le]
  refine key.trans ?_
  rw [List.drop_zero]
def P.s_l02Parse (k : Nat) (x : (((List ByteArray) × (List ByteArray)) × Unit)) : (Option ((((List (Bool × ((List Int) × (List Int)))) × (List (Bool × ((List Int) × (List Int))))) × Bool) × Unit)) :=
 (if ((decide ((((List.length x.1.1) : Nat) : Int) < (1 : Int))) = true) then (some (((([] : List (Bool × ((List Int) × (List Int)))) , ([] : List (Bool × ((List Int) × (List Int))))) , false) , ()))
 else (if ((decide ((((List.length x.1.1) : Nat) : Int) > (20 : Int))) = true) then (some (((([] : List (Bool × ((List Int) × (List Int)))) , ([] : List (Bool × ((List Int) × (List Int))))) , false) , ()))
 else (if (((((List.length x.1.2) : Nat) : Int) != (((List.length x.1.1) : Nat) : Int)) = true) then (some (((([] : List (Bool × ((List Int) × (List Int)))) , ([] : List (Bool × ((List Int) × (List Int))))) , false) , ()))
 else (Option.bind (S.s_l01List (x.1.1 , ())) (fun (y0 : (((List (Bool × ((List Int) × (List Int)))) × Bool) × Unit)) => (Option.bind (S.s_l01List (x.1.2 , ())) (fun (y1 : (((List (Bool × ((List Int) × (List Int)))) × Bool) × Unit)) => (if ((!y0.1.2) = true) then (some (((([] : List (Bool × ((List Int) × (List Int)))) , ([] : List (Bool × ((List Int) × (List Int))))) , false) , ()))
 else (if ((!y1.1.2) = true) then (some (((([] : List (Bool × ((List Int) × (List Int)))) , ([] : List (Bool × ((List Int) × (List Int))))) , false) , ()))
 else (Option.bind (S.s_l02Above (y0.1.1 , ())) (fun (y2 : (Bool × Unit)) => (if ((!y2.1) = true) then (some (((([] : List (Bool × ((List Int) × (List Int)))) , ([] : List (Bool × ((List Int) × (List Int))))) , false) , ()))
 else (Option.bind (S.s_l02Above (y1.1.1 , ())) (fun (y3 : (Bool × Unit)) => (if ((!y3.1) = true) then (some (((([] : List (Bool × ((List Int) × (List Int)))) , ([] : List (Bool × ((List Int) × (List Int))))) , false) , ()))
 else (some (((y0.1.1 , y1.1.1) , true) , ())))))))))))))))))
def S.s_l02Parse (x : (((List ByteArray) × (List ByteArray)) × Unit)) : (Option ((((List (Bool × ((List Int) × (List Int)))) × (List (Bool × ((List Int) × (List Int))))) × Bool) × Unit)) := if okT x.1.1 = true ∧ okT x.1.2 = true then some ((((lineQ x.1.1 x.1.2).1.1.map (rp B10), (lineQ x.1.1 x.1.2).1.2.map (rp B10)), (lineQ x.1.1 x.1.2).2), ()) else none
theorem S.s_l02Parse_ok (x : (((List ByteArray) × (List ByteArray)) × Unit)) (r : _) (h : S.s_l02Parse x = some r) : ∃ k, P.s_l02Parse k x = some r := by
  obtain ⟨⟨us, ds⟩, u⟩ := x
  unfold S.s_l02Parse at h
  dsimp only at h
  split at h
  case isFalse => cases h
  rename_i hc
  cases h
  refine ⟨0, ?_⟩
  unfold P.s_l02Parse S.s_l01List lineQ
  dsimp only
  by_cases h1 : 1 ≤ us.length
  case neg =>
    rw [if_pos (decide_eq_true (show (us.length : Int) < 1 by omega))]
    simp [h1]
  rw [if_neg (by simpa using (show ¬ (us.length : Int) < 1 by omega))]
  by_cases h2 : us.length ≤ 20
  case neg =>
    rw [if_pos (decide_eq_true (show (us.length : Int) > 20 by omega))]
    simp [h2]
  rw [if_neg (by simpa using (show ¬ (us.length : Int) > 20 by omega))]
  by_cases h3 : ds.length = us.length
  case neg =>
    rw [if_pos (by simp; omega)]
    simp [h3]
  rw [if_neg (by simp; omega), if_pos hc.1, if_pos hc.2, Option.bind_some, Option.bind_some]
  dsimp only
  rw [decide_eq_true h1, decide_eq_true h2, decide_eq_true h3]
  simp only [Bool.true_and]
  cases hu : (rdAll us).2
  · rfl
  cases hd : (rdAll ds).2
  · rfl
  have gu := rdAll_goodL (B := B10) hu
  have gd := rdAll_goodL (B := B10) hd
  have cu : S.s_l02Above ((rdAll us).1.map (rp B10), ()) = some (ratesB (rdAll us).1, ()) := by
    unfold S.s_l02Above
    dsimp only
    rw [if_pos gu, map_rv B10_le]
  have cd : S.s_l02Above ((rdAll ds).1.map (rp B10), ()) = some (ratesB (rdAll ds).1, ()) := by
    unfold S.s_l02Above
    dsimp only
    rw [if_pos gd, map_rv B10_le]
  simp only [Bool.not_true, Bool.false_eq_true, if_false]
  rw [cu, Option.bind_some]
  dsimp only
  cases hx : ratesB (rdAll us).1
  · rfl
  rw [if_neg (by decide), cd, Option.bind_some]
  dsimp only
  cases hy : ratesB (rdAll ds).1
  · rfl
  · rfl
abbrev P.s_l01Dec_b0  (x1 : ((List Int) × (Int × (Int × Unit)))) (g2 : ((List Int) × (Int × (Int × Unit))) → Option (ByteArray × Unit)) : Option (ByteArray × Unit) :=
 (if (((((List.length x1.1) : Nat) : Int) == (0 : Int)) = true) then (if ((decide ((Int.tmod x1.2.1 (10 : Int)) < (0 : Int))) = true) then (if ((decide ((((List.length ((Go.IntKind.wrap Go.IntKind.u8 (Go.IntKind.wrap Go.IntKind.i64 ((48 : Int) + (Go.IntKind.wrap Go.IntKind.i64 ((0 : Int) - (Int.tmod x1.2.1 (10 : Int))))))) :: ([] : List Int))) + (List.length x1.1)) * (1 : Nat)) ≤ (140737488355328 : Nat))) = true) then (g2 ((((Go.IntKind.wrap Go.IntKind.u8 (Go.IntKind.wrap Go.IntKind.i64 ((48 : Int) + (Go.IntKind.wrap Go.IntKind.i64 ((0 : Int) - (Int.tmod x1.2.1 (10 : Int))))))) :: ([] : List Int)) ++ x1.1) , ((Go.IntKind.wrap Go.IntKind.i64 (Int.tdiv x1.2.1 (10 : Int))) , (x1.2.2.1 , ()))))
 else none)
 else (if ((decide ((((List.length ((Go.IntKind.wrap Go.IntKind.u8 (Go.IntKind.wrap Go.IntKind.i64 ((48 : Int) + (Int.tmod x1.2.1 (10 : Int))))) :: ([] : List Int))) + (List.length x1.1)) * (1 : Nat)) ≤ (140737488355328 : Nat))) = true) then (g2 ((((Go.IntKind.wrap Go.IntKind.u8 (Go.IntKind.wrap Go.IntKind.i64 ((48 : Int) + (Int.tmod x1.2.1 (10 : Int))))) :: ([] : List Int)) ++ x1.1) , ((Go.IntKind.wrap Go.IntKind.i64 (Int.tdiv x1.2.1 (10 : Int))) , (x1.2.2.1 , ()))))
 else none))
 else (if ((x1.2.1 != (0 : Int)) = true) then (if ((decide ((Int.tmod x1.2.1 (10 : Int)) < (0 : Int))) = true) then (if ((decide ((((List.length ((Go.IntKind.wrap Go.IntKind.u8 (Go.IntKind.wrap Go.IntKind.i64 ((48 : Int) + (Go.IntKind.wrap Go.IntKind.i64 ((0 : Int) - (Int.tmod x1.2.1 (10 : Int))))))) :: ([] : List Int))) + (List.length x1.1)) * (1 : Nat)) ≤ (140737488355328 : Nat))) = true) then (g2 ((((Go.IntKind.wrap Go.IntKind.u8 (Go.IntKind.wrap Go.IntKind.i64 ((48 : Int) + (Go.IntKind.wrap Go.IntKind.i64 ((0 : Int) - (Int.tmod x1.2.1 (10 : Int))))))) :: ([] : List Int)) ++ x1.1) , ((Go.IntKind.wrap Go.IntKind.i64 (Int.tdiv x1.2.1 (10 : Int))) , (x1.2.2.1 , ()))))
 else none)
 else (if ((decide ((((List.length ((Go.IntKind.wrap Go.IntKind.u8 (Go.IntKind.wrap Go.IntKind.i64 ((48 : Int) + (Int.tmod x1.2.1 (10 : Int))))) :: ([] : List Int))) + (List.length x1.1)) * (1 : Nat)) ≤ (140737488355328 : Nat))) = true) then (g2 ((((Go.IntKind.wrap Go.IntKind.u8 (Go.IntKind.wrap Go.IntKind.i64 ((48 : Int) + (Int.tmod x1.2.1 (10 : Int))))) :: ([] : List Int)) ++ x1.1) , ((Go.IntKind.wrap Go.IntKind.i64 (Int.tdiv x1.2.1 (10 : Int))) , (x1.2.2.1 , ()))))
 else none))
 else (if ((decide (x1.2.2.1 < (0 : Int))) = true) then (if ((decide ((((1 : Nat) + (List.length x1.1)) * (1 : Nat)) ≤ (140737488355328 : Nat))) = true) then (some ((strOf (((45 : Int) :: ([] : List Int)) ++ x1.1)) , ()))
 else none)
 else (some ((strOf x1.1) , ())))))
def P.s_l01Dec (k : Nat) (x : (Int × Unit)) : (Option (ByteArray × Unit)) :=
 (loopP (X := ((List Int) × (Int × (Int × Unit)))) (R := (ByteArray × Unit)) (P.s_l01Dec_b0 ) k (([] : List Int) , (x.1 , (x.1 , ()))))
/-- A number's digits, as Go's bytes. -/
def digI (u : Nat) : List Int := (Go.Lib.decDigits u).map fun b => (b.toNat : Int)
theorem digI_small {u : Nat} (h : u < 10) : digI u = [48 + (u : Int)] := by
  unfold digI
  rw [Go.Lib.decDigits, dif_pos h]
  simp only [List.map_cons, List.map_nil, List.cons.injEq, and_true]
  rw [UInt8.toNat_ofNat']
  omega
theorem digI_step {u : Nat} (h : ¬ u < 10) : digI u = digI (u / 10) ++ [48 + ((u % 10 : Nat) : Int)] := by
  unfold digI
  rw [Go.Lib.decDigits, dif_neg h, List.map_append]
  simp only [List.map_cons, List.map_nil]
  rw [UInt8.toNat_ofNat']
  congr 2
  omega
theorem digI_len (u : Nat) : (digI u).length ≤ u + 1 := by
  induction u using Nat.strongRecOn with
  | ind u ih =>
    by_cases h : u < 10
    · rw [digI_small h]; simp
    · rw [digI_step h, List.length_append]
      have := ih (u / 10) (by omega)
      simp
      omega
theorem strOf_map (l : List UInt8) : strOf (l.map fun b => (b.toNat : Int)) = ⟨l.toArray⟩ := by
  unfold strOf
  rw [List.map_map]
  have : ((fun n : Int => UInt8.ofNat n.toNat) ∘ fun b : UInt8 => (b.toNat : Int)) = id := by
    funext b
    simp
  rw [this, List.map_id]
theorem wr8 {x : Int} (h0 : 0 ≤ x) (h1 : x ≤ 255) : Go.IntKind.wrap Go.IntKind.u8 x = x := by
  show x % 256 = x
  omega
def sgn (neg : Bool) (u : Nat) : Int := if neg = true then -(u : Int) else (u : Int)
theorem sgn_tmod (neg : Bool) (u : Nat) : Int.tmod (sgn neg u) 10 = sgn neg (u % 10) := by
  cases neg
  · show Int.tmod (u : Int) 10 = ((u % 10 : Nat) : Int)
    rw [Int.tmod_eq_emod_of_nonneg (by omega)]
    omega
  · show Int.tmod (-(u : Int)) 10 = -((u % 10 : Nat) : Int)
    rw [Int.neg_tmod, Int.tmod_eq_emod_of_nonneg (by omega)]
    omega
theorem sgn_tdiv (neg : Bool) (u : Nat) : Int.tdiv (sgn neg u) 10 = sgn neg (u / 10) := by
  cases neg
  · show Int.tdiv (u : Int) 10 = ((u / 10 : Nat) : Int)
    rw [Int.tdiv_eq_ediv_of_nonneg (by omega)]
    omega
  · show Int.tdiv (-(u : Int)) 10 = -((u / 10 : Nat) : Int)
    rw [Int.neg_tdiv, Int.tdiv_eq_ediv_of_nonneg (by omega)]
    omega
/-- One round writes one digit. -/
theorem dec_round (neg : Bool) (u : Nat) (n : Int) (out : List Int) (g : ((List Int) × (Int × (Int × Unit))) → Option (ByteArray × Unit)) (hu : u ≤ 9223372036854775808) (hs : neg = false → u ≤ 9223372036854775807) (ho : out.length ≤ 1000) (hc : out = [] ∨ u ≠ 0) :
    P.s_l01Dec_b0 (out, sgn neg u, n, ()) g = g ((48 + ((u % 10 : Nat) : Int)) :: out, sgn neg (u / 10), n, ()) := by
  have hw : Go.IntKind.wrap Go.IntKind.i64 (sgn neg (u / 10)) = sgn neg (u / 10) := by
    apply wr <;> unfold sgn <;> split <;> omega
  have hA : ∀ (a b : Option (ByteArray × Unit)), (if ((decide (sgn neg (u % 10) < (0 : Int))) = true) then a else b) = (if (sgn neg (u % 10) < 0) then a else b) := by
    intro a b
    by_cases h : sgn neg (u % 10) < 0 <;> simp [h]
  have hneg : sgn neg (u % 10) < 0 → Go.IntKind.wrap Go.IntKind.i64 ((0 : Int) - sgn neg (u % 10)) = ((u % 10 : Nat) : Int) := by
    intro h
    unfold sgn at h ⊢
    split at h
    · rename_i hn
      rw [if_pos hn, wr (by omega) (by omega)]
      omega
    · omega
  have hpos : ¬ sgn neg (u % 10) < 0 → sgn neg (u % 10) = ((u % 10 : Nat) : Int) := by
    intro h
    unfold sgn at h ⊢
    split at h
    · rename_i hn
      rw [if_pos hn]
      omega
    · rename_i hn
      rw [if_neg hn]
  have hch : Go.IntKind.wrap Go.IntKind.u8 (Go.IntKind.wrap Go.IntKind.i64 ((48 : Int) + ((u % 10 : Nat) : Int))) = 48 + ((u % 10 : Nat) : Int) := by
    rw [wr (by omega) (by omega), wr8 (by omega) (by omega)]
  have hlen : ∀ c : Int, ((List.length (c :: ([] : List Int)) + List.length out) * 1 ≤ 140737488355328) := by
    intro c
    simp
    omega
  unfold P.s_l01Dec_b0
  dsimp only
  have hu0 : u ≠ 0 → sgn neg u ≠ 0 := by
    intro h
    unfold sgn
    split <;> omega
  simp only [hA, sgn_tmod, sgn_tdiv, hw]
  have hin : ∀ X Y : Option (ByteArray × Unit), (sgn neg (u % 10) < 0 → X = g ((48 + ((u % 10 : Nat) : Int)) :: out, sgn neg (u / 10), n, ())) → (¬ sgn neg (u % 10) < 0 → Y = g ((48 + ((u % 10 : Nat) : Int)) :: out, sgn neg (u / 10), n, ())) →
      (if sgn neg (u % 10) < 0 then X else Y) = g ((48 + ((u % 10 : Nat) : Int)) :: out, sgn neg (u / 10), n, ()) := by
    intro X Y h1 h2
    split
    · exact h1 (by assumption)
    · exact h2 (by assumption)
  have key : (if sgn neg (u % 10) < 0 then (if ((decide (((List.length ((Go.IntKind.wrap Go.IntKind.u8 (Go.IntKind.wrap Go.IntKind.i64 ((48 : Int) + (Go.IntKind.wrap Go.IntKind.i64 ((0 : Int) - sgn neg (u % 10)))))) :: ([] : List Int)) + (List.length out)) * (1 : Nat)) ≤ (140737488355328 : Nat))) = true) then (g ((((Go.IntKind.wrap Go.IntKind.u8 (Go.IntKind.wrap Go.IntKind.i64 ((48 : Int) + (Go.IntKind.wrap Go.IntKind.i64 ((0 : Int) - sgn neg (u % 10)))))) :: ([] : List Int)) ++ out) , (sgn neg (u / 10) , (n , ())))) else none)
      else (if ((decide (((List.length ((Go.IntKind.wrap Go.IntKind.u8 (Go.IntKind.wrap Go.IntKind.i64 ((48 : Int) + sgn neg (u % 10)))) :: ([] : List Int)) + (List.length out)) * (1 : Nat)) ≤ (140737488355328 : Nat))) = true) then (g ((((Go.IntKind.wrap Go.IntKind.u8 (Go.IntKind.wrap Go.IntKind.i64 ((48 : Int) + sgn neg (u % 10)))) :: ([] : List Int)) ++ out) , (sgn neg (u / 10) , (n , ())))) else none)) = g ((48 + ((u % 10 : Nat) : Int)) :: out, sgn neg (u / 10), n, ()) := by
    refine hin _ _ (fun h => ?_) (fun h => ?_)
    · rw [if_pos (decide_eq_true (hlen _)), hneg h, hch]
      rfl
    · rw [if_pos (decide_eq_true (hlen _)), hpos h, hch]
      rfl
  rcases hc with rfl | hc
  · rw [if_pos (by rfl)]
    exact key
  · by_cases ho' : ((((List.length out) : Nat) : Int) == (0 : Int)) = true
    · rw [if_pos ho']
      exact key
    · rw [if_neg ho', if_pos (by simpa using hu0 hc)]
      exact key
theorem dec_end (neg : Bool) (n : Int) (out : List Int) (g : ((List Int) × (Int × (Int × Unit))) → Option (ByteArray × Unit)) (ho : out.length ≤ 1000) (hc : out ≠ []) :
    P.s_l01Dec_b0 (out, sgn neg 0, n, ()) g = some (strOf (if n < 0 then 45 :: out else out), ()) := by
  unfold P.s_l01Dec_b0
  dsimp only
  have h0 : sgn neg 0 = 0 := by cases neg <;> rfl
  rw [if_neg (by simpa using hc), h0, if_neg (by decide)]
  by_cases hn : n < 0
  · rw [if_pos (decide_eq_true hn), if_pos (decide_eq_true (by omega)), if_pos hn]
    rfl
  · rw [if_neg (by simpa using hn), if_neg hn]
theorem dec_loop (neg : Bool) (n : Int) : ∀ (u : Nat) (out : List Int) (k : Nat), u ≠ 0 → u ≤ 9223372036854775808 → (neg = false → u ≤ 9223372036854775807) → out.length + u.log2 ≤ 900 → u.log2 + 2 ≤ k →
    loopP P.s_l01Dec_b0 k (out, sgn neg u, n, ()) = some (strOf (if n < 0 then 45 :: (digI u ++ out) else digI u ++ out), ()) := by
  intro u
  induction u using Nat.strongRecOn with
  | ind u ih =>
    intro out k h0 hu hs ho hk
    obtain ⟨k, rfl⟩ : ∃ j, k = j + 1 := ⟨k - 1, by omega⟩
    rw [loopP_succ, dec_round neg u n out _ hu hs (by omega) (.inr h0)]
    by_cases h : u < 10
    · have e : u / 10 = 0 := by omega
      obtain ⟨k, rfl⟩ : ∃ j, k = j + 1 := ⟨k - 1, by omega⟩
      rw [e, loopP_succ, dec_end neg n _ _ (by simp; omega) (by simp), digI_small h, Nat.mod_eq_of_lt h]
      rfl
    · have hl : (u / 10).log2 + 1 ≤ u.log2 := by
        have h2 : u / 10 ≠ 0 := by omega
        have a1 : 2 ^ (u / 10).log2 ≤ u / 10 := Nat.log2_self_le h2
        have a2 : 2 ^ ((u / 10).log2 + 1) ≤ u := by rw [Nat.pow_succ]; omega
        exact (Nat.le_log2 h0).2 a2
      rw [ih (u / 10) (by omega) _ k (by omega) (by omega) (fun hn => by have := hs hn; omega) (by simp; omega) (by omega), digI_step h]
      simp
def S.s_l01Dec (x : (Int × Unit)) : (Option (ByteArray × Unit)) := if -9223372036854775808 ≤ x.1 ∧ x.1 ≤ 9223372036854775807 then some (⟨(Go.Lib.itoa x.1).toArray⟩, ()) else none
theorem S.s_l01Dec_ok (x : (Int × Unit)) (r : _) (h : S.s_l01Dec x = some r) : ∃ k, P.s_l01Dec k x = some r := by
  obtain ⟨n, u⟩ := x
  unfold S.s_l01Dec at h
  dsimp only at h
  split at h
  case isFalse => cases h
  rename_i hn
  cases h
  refine ⟨200, ?_⟩
  unfold P.s_l01Dec
  dsimp only
  have hsg : ∃ neg, n = sgn neg n.natAbs ∧ (neg = true ↔ n < 0) := by
    by_cases h : n < 0
    · exact ⟨true, by unfold sgn; simp; omega, by simp [h]⟩
    · exact ⟨false, by unfold sgn; simp; omega, by simp [h]⟩
  obtain ⟨neg, h1, h2⟩ := hsg
  have hfin : strOf (if n < 0 then 45 :: digI n.natAbs else digI n.natAbs) = ⟨(Go.Lib.itoa n).toArray⟩ := by
    unfold Go.Lib.itoa digI
    split
    · rw [← strOf_map]
      rfl
    · rw [← strOf_map]
      have : n.natAbs = n.toNat := by omega
      rw [this]
  by_cases h0 : n.natAbs = 0
  · have hn0 : n = 0 := by omega
    subst hn0
    have e0 : (0 : Int) = sgn false 0 := rfl
    show loopP P.s_l01Dec_b0 (198 + 1 + 1) ([], 0, 0, ()) = _
    rw [loopP_succ]
    conv => lhs; rw [show (([] : List Int), (0 : Int), (0 : Int), ()) = ([], sgn false 0, 0, ()) from rfl]
    rw [dec_round false 0 0 [] _ (by omega) (by omega) (by simp) (.inl rfl), loopP_succ, show 0 / 10 = 0 from rfl, dec_end false 0 _ _ (by simp) (by simp), ← hfin]
    rw [show (0 : Int).natAbs = 0 from rfl, digI_small (by omega)]
  · have hb : n.natAbs ≤ 9223372036854775808 := by omega
    have hl : n.natAbs.log2 ≤ 64 := by
      have : n.natAbs.log2 < 65 := (Nat.log2_lt h0).2 (by omega)
      omega
    have := dec_loop neg n n.natAbs [] 200 h0 hb (fun hf => by
      have : ¬ n < 0 := fun h => by rw [h2.2 h] at hf; cases hf
      omega) (by simp; omega) (by omega)
    rw [← h1] at this
    rw [this, List.append_nil, hfin]
abbrev P.s_l01NatText_b1  (x2 : (Int × ((List Int) × (ByteArray × Unit)))) (g3 : (Int × ((List Int) × (ByteArray × Unit))) → Option (ByteArray × Unit)) : Option (ByteArray × Unit) :=
 (if ((decide (x2.1 ≥ (0 : Int))) = true) then (if ((decide ((0 : Int) ≤ x2.1)) = true) then (if ((decide (x2.1 < (((List.length x2.2.1) : Nat) : Int))) = true) then (Option.bind (S.s_l01Dec ((Go.IntKind.wrap Go.IntKind.i64 ((List.getD x2.2.1 (Int.toNat x2.1) (0 : Int)) + (1000000000 : Int))) , ())) (fun (y4 : (ByteArray × Unit)) => (if ((decide ((0 : Int) ≤ (((ByteArray.size y4.1) : Nat) : Int))) = true) then (if ((decide ((((ByteArray.size y4.1) : Nat) : Int) ≤ (((ByteArray.size y4.1) : Nat) : Int))) = true) then (if ((decide ((1 : Int) ≤ (((ByteArray.size y4.1) : Nat) : Int))) = true) then (if ((decide (((ByteArray.size x2.2.2.1) + (ByteArray.size (ByteArray.extract y4.1 (1 : Nat) (Int.toNat (((ByteArray.size y4.1) : Nat) : Int))))) ≤ (9223372036854775807 : Nat))) = true) then (g3 ((Go.IntKind.wrap Go.IntKind.i64 (x2.1 - (1 : Int))) , (x2.2.1 , ((x2.2.2.1 ++ (ByteArray.extract y4.1 (1 : Nat) (Int.toNat (((ByteArray.size y4.1) : Nat) : Int)))) , ()))))
 else none)
 else none)
 else none)
 else none)))
 else none)
 else none)
 else (some (x2.2.2.1 , ())))
def P.s_l01NatText (k : Nat) (x : ((List Int) × Unit)) : (Option (ByteArray × Unit)) :=
 (if (((((List.length x.1) : Nat) : Int) == (0 : Int)) = true) then (some ((bs [48]) , ()))
 else (if ((decide ((0 : Int) ≤ (Go.IntKind.wrap Go.IntKind.i64 ((((List.length x.1) : Nat) : Int) - (1 : Int))))) = true) then (if ((decide ((Go.IntKind.wrap Go.IntKind.i64 ((((List.length x.1) : Nat) : Int) - (1 : Int))) < (((List.length x.1) : Nat) : Int))) = true) then (Option.bind (S.s_l01Dec ((List.getD x.1 (Int.toNat (Go.IntKind.wrap Go.IntKind.i64 ((((List.length x.1) : Nat) : Int) - (1 : Int)))) (0 : Int)) , ())) (fun (y0 : (ByteArray × Unit)) => (loopP (X := (Int × ((List Int) × (ByteArray × Unit)))) (R := (ByteArray × Unit)) (P.s_l01NatText_b1 ) k ((Go.IntKind.wrap Go.IntKind.i64 ((((List.length x.1) : Nat) : Int) - (2 : Int))) , (x.1 , (y0.1 , ()))))))
 else none)
 else none))
def S.s_l01NatText (x : ((List Int) × Unit)) : (Option (ByteArray × Unit)) := if canon B10 x.1 = true ∧ x.1.length ≤ 100000 then some (⟨(Go.Lib.decDigits (dval B10 x.1)).toArray⟩, ()) else none
theorem S.s_l01NatText_ok (x : ((List Int) × Unit)) (r : _) (h : S.s_l01NatText x = some r) : ∃ k, P.s_l01NatText k x = some r := by
  obtain ⟨xs, u⟩ := x
  unfold S.s_l01NatText at h
  dsimp only at h
  split at h
  case isFalse => cases h
  rename_i hc
  obtain ⟨ca, la⟩ := hc
  cases h
  refine ⟨xs.length + 1, ?_⟩
  unfold P.s_l01NatText
  dsimp only
  by_cases he : xs = []
  · subst he
    rw [if_pos (by rfl), show dval B10 [] = 0 from rfl, dec_small (by decide)]
    rfl
  · have hpos : 0 < xs.length := List.length_pos_iff.2 he
    obtain ⟨m, hm⟩ : ∃ m, xs.length = m + 1 := ⟨xs.length - 1, by omega⟩
    have dx := canon_dig ca
    have h0 : dval B10 xs ≠ 0 := by
      intro q
      have := canon_eq ca
      rw [q, nd_zero B10_le] at this
      exact he this.symm
    have hdec : ∀ z : Int, 0 ≤ z → z ≤ 2000000000 → S.s_l01Dec (z, ()) = some (⟨(Go.Lib.decDigits z.toNat).toArray⟩, ()) := by
      intro z z0 z1
      unfold S.s_l01Dec
      dsimp only
      rw [if_pos ⟨by omega, by omega⟩]
      unfold Go.Lib.itoa
      rw [if_neg (by omega)]
    -- the part of the number from a place on is not 0
    have hnz : ∀ i, i ≤ m → dval B10 (xs.drop i) ≠ 0 := by
      intro i hi q
      have h1 := dval_append (B := B10) (xs.take i) (xs.drop i)
      rw [List.take_append_drop, q, Nat.mul_zero, Nat.add_zero] at h1
      have h2 := dval_lt (dig_take dx i)
      have h3 : (xs.take i).length = i := by simp; omega
      rw [h3] at h2
      have h4 := nd_low B10_le h0
      rw [canon_eq ca, hm, Nat.add_sub_cancel] at h4
      have h5 : B10 ^ i ≤ B10 ^ m := Nat.pow_le_pow_right (by decide) hi
      omega
    have hlenD : ∀ i, (Go.Lib.decDigits (dval B10 (xs.drop i))).length ≤ 9 * xs.length := by
      intro i
      have h1 := dval_lt (dig_drop dx i)
      have h2 : B10 ^ (xs.drop i).length ≤ B10 ^ xs.length := Nat.pow_le_pow_right (by decide) (by simp)
      rw [show B10 = 10 ^ 9 by decide, ← Nat.pow_mul, ← Nat.pow_mul] at h2
      rw [show B10 ^ (xs.drop i).length = 10 ^ (9 * (xs.drop i).length) by rw [show B10 = 10 ^ 9 by decide, ← Nat.pow_mul]] at h1
      exact dec_len (by omega) (by omega)
    have c1 : (0 : Int) ≤ (m : Int) := by omega
    have c2 : (m : Int) < ((m + 1 : Nat) : Int) := by omega
    rw [if_neg (by simp; exact he), hm, wr (x := ((m + 1 : Nat) : Int) - 1) (by omega) (by omega), wr (x := ((m + 1 : Nat) : Int) - 2) (by omega) (by omega), show ((m + 1 : Nat) : Int) - 1 = (m : Int) by omega, if_pos (decide_eq_true c1), if_pos (decide_eq_true c2), Int.toNat_natCast]
    have gx := dig_getD (B := B10) (by decide) dx m
    have gx1 : xs.getD m 0 < 1000000000 := gx.2
    rw [hdec _ gx.1 (by omega), Option.bind_some]
    have hlast : (xs.getD m 0).toNat = dval B10 (xs.drop m) := by
      rw [dval_drop (by omega), List.drop_of_length_le (by omega)]
      simp [dval]
    rw [hlast]
    have key := loop_up0 (k := m + 1 + 1) (b := P.s_l01NatText_b1) (n := m) (st := fun i => ((m : Int) - 1 - (i : Int), xs, (⟨(Go.Lib.decDigits (dval B10 (xs.drop (m - i)))).toArray⟩ : ByteArray), ())) (F := fun i => some (⟨(Go.Lib.decDigits (dval B10 xs)).toArray⟩, ())) (fun i g hi hg => by
      unfold P.s_l01NatText_b1
      dsimp only at hg ⊢
      obtain ⟨j, hj⟩ : ∃ j, m - i = j + 1 := ⟨m - i - 1, by omega⟩
      rw [show m - (i + 1) = j by omega, show (m : Int) - 1 - ((i + 1 : Nat) : Int) = (j : Int) - 1 by omega] at hg
      rw [hj, show (m : Int) - 1 - (i : Int) = (j : Int) by omega]
      have d1 : (j : Int) ≥ 0 := by omega
      have d2 : (0 : Int) ≤ (j : Int) := by omega
      have d3 : (j : Int) < (xs.length : Int) := by omega
      have gx := dig_getD (B := B10) (by decide) dx j
      have gx1 : xs.getD j 0 < 1000000000 := gx.2
      have gx0 := gx.1
      rw [if_pos (decide_eq_true d1), if_pos (decide_eq_true d2), if_pos (decide_eq_true d3), Int.toNat_natCast, wr (x := xs.getD j 0 + 1000000000) (by omega) (by omega), hdec _ (by omega) (by omega), Option.bind_some]
      dsimp only
      obtain ⟨z, hz⟩ : ∃ z : Nat, xs.getD j 0 = (z : Int) := ⟨(xs.getD j 0).toNat, by omega⟩
      have hzl : z < 10 ^ 9 := by rw [show (10 : Nat) ^ 9 = 1000000000 by decide]; omega
      have e1 := nine_all z (xs.getD j 0) hz hzl
      rw [e1]
      have hs : (⟨(49 :: decPad 9 z).toArray⟩ : ByteArray).size = 10 := by rw [ba_sz, List.length_cons, decPad_len]
      have hx : ByteArray.extract ⟨(49 :: decPad 9 z).toArray⟩ 1 10 = ⟨(decPad 9 z).toArray⟩ := by
        apply ByteArray.ext
        rw [ByteArray.data_extract]
        have hl : (decPad 9 z).length = 9 := decPad_len _ _
        simp [List.extract_toArray, List.take_of_length_le, hl]
      rw [hs]
      have f1 : (0 : Int) ≤ ((10 : Nat) : Int) := by decide
      have f2 : (1 : Int) ≤ ((10 : Nat) : Int) := by decide
      rw [if_pos (decide_eq_true f1), if_pos (decide_eq_true (Int.le_refl _)), if_pos (decide_eq_true f2), show (((10 : Nat) : Int)).toNat = 10 from rfl, hx]
      have hl1 := hlenD (j + 1)
      have f3 : (⟨(Go.Lib.decDigits (dval B10 (xs.drop (j + 1)))).toArray⟩ : ByteArray).size + (⟨(decPad 9 z).toArray⟩ : ByteArray).size ≤ 9223372036854775807 := by
        rw [ba_sz, ba_sz, decPad_len]
        omega
      rw [if_pos (decide_eq_true f3), ba_app, wr (x := (j : Int) - 1) (by omega) (by omega)]
      have e2 : Go.Lib.decDigits (dval B10 (xs.drop (j + 1))) ++ decPad 9 z = Go.Lib.decDigits (dval B10 (xs.drop j)) := by
        rw [dval_drop (xs := xs) (i := j) (by omega), hz, Int.toNat_natCast]
        generalize hD : dval B10 (xs.drop (j + 1)) = D
        have hD0 : 0 < D := by rw [← hD]; exact Nat.pos_of_ne_zero (hnz (j + 1) (by omega))
        have e3 : z + B10 * D = D * 10 ^ 9 + z := by rw [Nat.add_comm, Nat.mul_comm]
        rw [e3, dec_split 9 D z hD0 hzl]
      rw [e2]
      exact hg) (fun g => by
      unfold P.s_l01NatText_b1
      dsimp only
      rw [if_neg (by simp; omega), Nat.sub_self, List.drop_zero]) (by omega)
    rw [Nat.sub_zero, show (m : Int) - 1 - ((0 : Nat) : Int) = ((m + 1 : Nat) : Int) - 2 by omega] at key
    exact key
def P.s_l01Fits (k : Nat) (x : ((Bool × ((List Int) × (List Int))) × Unit)) : (Option (Bool × Unit)) :=
 (Option.bind (S.s_l01NatText (x.1.2.1 , ())) (fun (y0 : (ByteArray × Unit)) => (if ((decide ((((ByteArray.size y0.1) : Nat) : Int) ≤ (200 : Int))) = true) then (Option.bind (S.s_l01NatText (x.1.2.2 , ())) (fun (y1 : (ByteArray × Unit)) => (some ((decide ((((ByteArray.size y1.1) : Nat) : Int) ≤ (200 : Int))) , ()))))
 else (some (false , ())))))
def S.s_l01Fits (x : ((Bool × ((List Int) × (List Int))) × Unit)) : (Option (Bool × Unit)) := P.s_l01Fits 0 x
theorem S.s_l01Fits_ok (x : ((Bool × ((List Int) × (List Int))) × Unit)) (r : _) (h : S.s_l01Fits x = some r) : ∃ k, P.s_l01Fits k x = some r := ⟨0, h⟩
def P.s_l01Show (k : Nat) (x : ((Bool × ((List Int) × (List Int))) × Unit)) : (Option (ByteArray × Unit)) :=
 (Option.bind (S.s_l01NatText (x.1.2.1 , ())) (fun (y0 : (ByteArray × Unit)) => (if (x.1.1 = true) then (if ((decide (((1 : Nat) + (ByteArray.size y0.1)) ≤ (9223372036854775807 : Nat))) = true) then (Option.bind (S.s_l01Cmp (x.1.2.2 , (((1 : Int) :: ([] : List Int)) , ()))) (fun (y1 : (Int × Unit)) => (if ((y1.1 != (0 : Int)) = true) then (Option.bind (S.s_l01NatText (x.1.2.2 , ())) (fun (y2 : (ByteArray × Unit)) => (if ((decide (((1 : Nat) + (ByteArray.size y2.1)) ≤ (9223372036854775807 : Nat))) = true) then (if ((decide (((ByteArray.size ((bs [45]) ++ y0.1)) + (ByteArray.size ((bs [47]) ++ y2.1))) ≤ (9223372036854775807 : Nat))) = true) then (some ((((bs [45]) ++ y0.1) ++ ((bs [47]) ++ y2.1)) , ()))
 else none)
 else none)))
 else (some (((bs [45]) ++ y0.1) , ())))))
 else none)
 else (Option.bind (S.s_l01Cmp (x.1.2.2 , (((1 : Int) :: ([] : List Int)) , ()))) (fun (y3 : (Int × Unit)) => (if ((y3.1 != (0 : Int)) = true) then (Option.bind (S.s_l01NatText (x.1.2.2 , ())) (fun (y4 : (ByteArray × Unit)) => (if ((decide (((1 : Nat) + (ByteArray.size y4.1)) ≤ (9223372036854775807 : Nat))) = true) then (if ((decide (((ByteArray.size y0.1) + (ByteArray.size ((bs [47]) ++ y4.1))) ≤ (9223372036854775807 : Nat))) = true) then (some ((y0.1 ++ ((bs [47]) ++ y4.1)) , ()))
 else none)
 else none)))
 else (some (y0.1 , ()))))))))
def S.s_l01Show (x : ((Bool × ((List Int) × (List Int))) × Unit)) : (Option (ByteArray × Unit)) := P.s_l01Show 0 x
theorem S.s_l01Show_ok (x : ((Bool × ((List Int) × (List Int))) × Unit)) (r : _) (h : S.s_l01Show x = some r) : ∃ k, P.s_l01Show k x = some r := ⟨0, h⟩
def P.s_l01Give (k : Nat) (x : ((Bool × ((List Int) × (List Int))) × Unit)) : (Option ((ByteArray × Bool) × Unit)) :=
 (Option.bind (S.s_l01Fits ((x.1.1 , (x.1.2.1 , x.1.2.2)) , ())) (fun (y0 : (Bool × Unit)) => (if ((!y0.1) = true) then (some (((bs []) , false) , ()))
 else (Option.bind (S.s_l01Show ((x.1.1 , (x.1.2.1 , x.1.2.2)) , ())) (fun (y1 : (ByteArray × Unit)) => (some ((y1.1 , true) , ())))))))
def S.s_l01Give (x : ((Bool × ((List Int) × (List Int))) × Unit)) : (Option ((ByteArray × Bool) × Unit)) := if rok B10 100000 x.1 = true then some (giveN (rv B10 x.1), ()) else none
theorem S.s_l01Give_ok (x : ((Bool × ((List Int) × (List Int))) × Unit)) (r : _) (h : S.s_l01Give x = some r) : ∃ k, P.s_l01Give k x = some r := by
  obtain ⟨⟨neg, as, bs'⟩, u⟩ := x
  unfold S.s_l01Give at h
  dsimp only at h
  split at h
  case isFalse => cases h
  rename_i hc
  cases h
  rw [rok_iff] at hc
  obtain ⟨ca, cb, la, lb⟩ := hc
  dsimp only at ca cb la lb
  refine ⟨0, ?_⟩
  unfold P.s_l01Give S.s_l01Fits S.s_l01Show P.s_l01Fits P.s_l01Show
  dsimp only
  have e1 : ∀ xs, canon B10 xs = true → xs.length ≤ 100000 → S.s_l01NatText (xs, ()) = some (⟨(Go.Lib.decDigits (dval B10 xs)).toArray⟩, ()) := by
    intro xs cx lx
    unfold S.s_l01NatText
    exact if_pos ⟨cx, lx⟩
  have e3 : S.s_l01Cmp (bs', ([1], ())) = some (cmpN (dval B10 bs') 1, ()) := by
    unfold S.s_l01Cmp
    dsimp only
    rw [if_pos ⟨cb, canon_one B10_le, by omega⟩, dval_one]
  rw [e1 as ca la, Option.bind_some, e1 bs' cb lb, Option.bind_some, e3, Option.bind_some]
  dsimp only
  have l1 := canon_dec (show B10 ≤ 10 ^ 10 by decide) ca
  have l2 := canon_dec (show B10 ≤ 10 ^ 10 by decide) cb
  unfold giveN rv ratTx fitN
  dsimp only
  generalize Go.Lib.decDigits (dval B10 as) = t1 at *
  generalize Go.Lib.decDigits (dval B10 bs') = t2 at *
  rw [show bs [45] = ⟨([45] : List UInt8).toArray⟩ from rfl, show bs [47] = ⟨([47] : List UInt8).toArray⟩ from rfl]
  simp only [Option.bind_some]
  rw [ba_app, ba_app, ba_app, ba_app, ba_sz, ba_sz, ba_sz, ba_sz]
  have c1 : (1 + t1.length ≤ 9223372036854775807) := by omega
  have c2 : (1 + t2.length ≤ 9223372036854775807) := by omega
  have c3 : ([45] ++ t1).length + ([47] ++ t2).length ≤ 9223372036854775807 := by simp; omega
  have c4 : t1.length + ([47] ++ t2).length ≤ 9223372036854775807 := by simp; omega
  simp only [c1, c2, c3, c4, decide_true, if_true]
  have d1 : ∀ t : List UInt8, decide (((t.length : Nat) : Int) ≤ 200) = decide (t.length ≤ 200) := by
    intro t
    rw [decide_eq_decide]
    omega
  rw [d1, d1]
  have d2 : ((cmpN (dval B10 bs') 1 != 0) = true) ↔ ¬ dval B10 bs' = 1 := by
    rw [← cmpN_zero (b := 1)]
    simp
  by_cases f1 : t1.length ≤ 200
  · by_cases f2 : t2.length ≤ 200
    · by_cases hq : dval B10 bs' = 1
      · have n2 : ¬ ((cmpN 1 1 != 0) = true) := by decide
        cases neg <;> simp only [f1, f2, n2, hq, decide_true, if_true, if_false, Bool.false_eq_true, List.append_nil, List.nil_append, Option.bind_some, Bool.not_true, Bool.and_true]
      · have n2 : ((cmpN (dval B10 bs') 1 != 0) = true) := d2.2 hq
        cases neg <;> simp only [f1, f2, n2, hq, decide_true, if_true, if_false, Bool.false_eq_true, List.nil_append, Option.bind_some, Bool.not_true, Bool.and_true] <;> simp
    · simp [f1, f2]
  · simp [f1]
theorem rs_give {x : Q3} {m : Nat} (bx : below m x) (hm : m ≤ 800000) : S.s_l01Give (rp B10 x, ()) = some (giveN x, ()) := by
  unfold S.s_l01Give
  dsimp only
  rw [if_pos (below_rok9 (by decide) bx (by omega)), rv_rp B10_le]
abbrev P.s_l01GiveAll_b0  (x1 : (Int × (Int × ((List (Bool × ((List Int) × (List Int)))) × ((List ByteArray) × Unit))))) (g2 : (Int × (Int × ((List (Bool × ((List Int) × (List Int)))) × ((List ByteArray) × Unit)))) → Option (((List ByteArray) × Bool) × Unit)) : Option (((List ByteArray) × Bool) × Unit) :=
 (if ((decide (x1.1 < x1.2.1)) = true) then (if ((decide ((0 : Int) ≤ x1.1)) = true) then (if ((decide (x1.1 < (((List.length x1.2.2.1) : Nat) : Int))) = true) then (Option.bind (S.s_l01Give (((List.getD x1.2.2.1 (Int.toNat x1.1) (false , (([] : List Int) , ([] : List Int)))).1 , ((List.getD x1.2.2.1 (Int.toNat x1.1) (false , (([] : List Int) , ([] : List Int)))).2.1 , (List.getD x1.2.2.1 (Int.toNat x1.1) (false , (([] : List Int) , ([] : List Int)))).2.2)) , ())) (fun (y3 : ((ByteArray × Bool) × Unit)) => (if ((!y3.1.2) = true) then (some ((([] : List ByteArray) , false) , ()))
 else (if ((decide ((((List.length x1.2.2.2.1) + (List.length (y3.1.1 :: ([] : List ByteArray)))) * (16 : Nat)) ≤ (140737488355328 : Nat))) = true) then (g2 ((Go.IntKind.wrap Go.IntKind.i64 (x1.1 + (1 : Int))) , (x1.2.1 , (x1.2.2.1 , ((x1.2.2.2.1 ++ (y3.1.1 :: ([] : List ByteArray))) , ())))))
 else none))))
 else none)
 else none)
 else (some ((x1.2.2.2.1 , true) , ())))
def P.s_l01GiveAll (k : Nat) (x : ((List (Bool × ((List Int) × (List Int)))) × Unit)) : (Option (((List ByteArray) × Bool) × Unit)) :=
 (loopP (X := (Int × (Int × ((List (Bool × ((List Int) × (List Int)))) × ((List ByteArray) × Unit))))) (R := (((List ByteArray) × Bool) × Unit)) (P.s_l01GiveAll_b0 ) k ((0 : Int) , ((((List.length x.1) : Nat) : Int) , (x.1 , (([] : List ByteArray) , ())))))
def S.s_l01GiveAll (x : ((List (Bool × ((List Int) × (List Int)))) × Unit)) : (Option (((List ByteArray) × Bool) × Unit)) := if x.1.all (rok B10 100000) = true ∧ x.1.length ≤ 1000000 then some (giveL (x.1.map (rv B10)), ()) else none
theorem S.s_l01GiveAll_ok (x : ((List (Bool × ((List Int) × (List Int)))) × Unit)) (r : _) (h : S.s_l01GiveAll x = some r) : ∃ k, P.s_l01GiveAll k x = some r := by
  obtain ⟨xs, u⟩ := x
  unfold S.s_l01GiveAll at h
  dsimp only at h
  split at h
  case isFalse => cases h
  rename_i hc
  cases h
  obtain ⟨qs, rfl⟩ : ∃ qs : List Q3, xs = qs.map (rp B10) := ⟨xs.map (rv B10), by
    rw [List.map_map]
    have : ∀ ys : List (Bool × (List Int × List Int)), ys.all (rok B10 100000) = true → ys.map (rp B10 ∘ rv B10) = ys := by
      intro ys
      induction ys with
      | nil => intro _; rfl
      | cons y ys ih =>
        intro hy
        rw [List.all_cons, Bool.and_eq_true] at hy
        rw [List.map_cons, ih hy.2]
        show rp B10 (rv B10 y) :: ys = _
        rw [rp_rv hy.1]
    exact (this xs hc.1).symm⟩
  have hlen := hc.2
  rw [List.length_map] at hlen
  refine ⟨qs.length + 1, ?_⟩
  unfold P.s_l01GiveAll giveL
  dsimp only
  have key := loop_up0 (k := qs.length + 1) (b := P.s_l01GiveAll_b0) (n := qs.length) (st := fun i => ((i : Int), (qs.length : Int), qs.map (rp B10), (qs.take i).map (fun r : Q3 => (⟨(ratTx r).toArray⟩ : ByteArray)), ())) (F := fun i => some (if (qs.drop i).all fitN = true then (qs.map (fun r : Q3 => (⟨(ratTx r).toArray⟩ : ByteArray)), true) else ([], false), ())) (fun i g hi hg' => by
    unfold P.s_l01GiveAll_b0
    dsimp only at hg' ⊢
    have e1 : (i : Int) < (qs.length : Int) := by omega
    have e2 : (0 : Int) ≤ (i : Int) := by omega
    have e3 : (i : Int) < ((qs.map (rp B10)).length : Int) := by rw [List.length_map]; omega
    simp only [e1, e2, e3, decide_true, if_true]
    rw [getD_cast (qs.map (rp B10)) i _ (by rw [List.length_map]; exact hi), List.getElem_map]
    have ht : S.s_l01Give (rp B10 qs[i], ()) = some (giveN qs[i], ()) := by
      unfold S.s_l01Give
      dsimp only
      rw [if_pos (by have := List.all_eq_true.1 hc.1 _ (List.mem_map.2 ⟨qs[i], List.getElem_mem hi, rfl⟩); exact this), rv_rp B10_le]
    show Option.bind (S.s_l01Give (rp B10 qs[i], ())) _ = _
    rw [ht, Option.bind_some, List.drop_eq_getElem_cons hi, List.all_cons]
    dsimp only
    cases hf : fitN qs[i]
    · have hv : giveN qs[i] = (bs [], false) := by unfold giveN; rw [hf]; rfl
      rw [hv, if_pos (by decide), Bool.false_and, if_neg (by decide)]
    · have hv : giveN qs[i] = (⟨(ratTx qs[i]).toArray⟩, true) := by unfold giveN; rw [hf]; rfl
      rw [hv]
      have e4 : (((qs.take i).map (fun r : Q3 => (⟨(ratTx r).toArray⟩ : ByteArray))).length + 1) * 16 ≤ 140737488355328 := by
        rw [List.length_map, List.length_take]
        omega
      rw [if_neg (by simp), wr (by omega) (by omega), Bool.true_and, ← hg']
      simp only [List.length_cons, List.length_nil, Nat.zero_add]
      rw [if_pos (decide_eq_true e4), List.take_add_one, List.getElem?_eq_getElem hi, Option.toList_some, List.map_append]
      rfl) (fun g => by
    unfold P.s_l01GiveAll_b0
    dsimp only
    rw [if_neg (by simp), List.take_length, List.drop_length]
    rfl) (by omega)
  rw [map_rv B10_le, List.length_map]
  refine key.trans ?_
  rw [List.drop_zero]
  by_cases ha : qs.all fitN = true
  · rw [if_pos ha, if_pos ha]
    congr 3
    refine List.map_congr_left fun r hr => ?_
    unfold giveN
    rw [if_pos (List.all_eq_true.1 ha r hr)]
  · rw [if_neg ha, if_neg ha]
def P.s_l02GiveAll (k : Nat) (x : ((List (Bool × ((List Int) × (List Int)))) × Unit)) : (Option (((List ByteArray) × Bool) × Unit)) :=
 (Option.bind (S.s_l01GiveAll (x.1 , ())) (fun (y0 : (((List ByteArray) × Bool) × Unit)) => (if ((!y0.1.2) = true) then (some ((([] : List ByteArray) , false) , ()))
 else (some ((y0.1.1 , true) , ())))))
def S.s_l02GiveAll (x : ((List (Bool × ((List Int) × (List Int)))) × Unit)) : (Option (((List ByteArray) × Bool) × Unit)) := if x.1.all (rok B10 100000) = true ∧ x.1.length ≤ 1000000 then some (giveL (x.1.map (rv B10)), ()) else none
theorem S.s_l02GiveAll_ok (x : ((List (Bool × ((List Int) × (List Int)))) × Unit)) (r : _) (h : S.s_l02GiveAll x = some r) : ∃ k, P.s_l02GiveAll k x = some r := by
  obtain ⟨xs, u⟩ := x
  unfold S.s_l02GiveAll at h
  dsimp only at h
  split at h
  case isFalse => cases h
  rename_i hc
  cases h
  refine ⟨0, ?_⟩
  unfold P.s_l02GiveAll S.s_l01GiveAll
  dsimp only
  rw [if_pos hc, Option.bind_some]
  unfold giveL
  split
  · rfl
  · rfl
def P.s_l01Int (k : Nat) (x : (Int × Unit)) : (Option ((Bool × ((List Int) × (List Int))) × Unit)) :=
 (if ((decide (x.1 < (0 : Int))) = true) then (Option.bind (S.s_l01Nat ((Go.IntKind.wrap Go.IntKind.i64 ((0 : Int) - x.1)) , ())) (fun (y0 : ((List Int) × Unit)) => (some ((true , (y0.1 , ((1 : Int) :: ([] : List Int)))) , ()))))
 else (Option.bind (S.s_l01Nat (x.1 , ())) (fun (y1 : ((List Int) × Unit)) => (some ((false , (y1.1 , ((1 : Int) :: ([] : List Int)))) , ())))))
def S.s_l01Int (x : (Int × Unit)) : (Option ((Bool × ((List Int) × (List Int))) × Unit)) := if -9223372036854775807 ≤ x.1 ∧ x.1 ≤ 9223372036854775807 then some (rp B10 (wholeQ x.1), ()) else none
theorem S.s_l01Int_ok (x : (Int × Unit)) (r : _) (h : S.s_l01Int x = some r) : ∃ k, P.s_l01Int k x = some r := by
  obtain ⟨n, u⟩ := x
  unfold S.s_l01Int at h
  dsimp only at h
  split at h
  case isFalse => cases h
  rename_i hc
  cases h
  refine ⟨0, ?_⟩
  unfold P.s_l01Int S.s_l01Nat rp wholeQ
  dsimp only
  rw [nd_one B10_le]
  by_cases h0 : n < 0
  · rw [if_pos (decide_eq_true h0), wr (by omega) (by omega), if_pos ⟨by omega, by omega⟩, Option.bind_some, decide_eq_true h0, show (0 - n).toNat = n.natAbs by omega]
  · rw [if_neg (by simpa using h0), if_pos ⟨by omega, by omega⟩, Option.bind_some, decide_eq_false h0, show n.toNat = n.natAbs by omega]
theorem rs_int {n : Int} (h0 : -1000000000 ≤ n) (h1 : n ≤ 1000000000) : S.s_l01Int (n, ()) = some (rp B10 (wholeQ n), ()) := by
  unfold S.s_l01Int
  exact if_pos ⟨by dsimp only; omega, by dsimp only; omega⟩
def P.s_l01One (k : Nat) (x : Unit) : (Option ((Bool × ((List Int) × (List Int))) × Unit)) :=
 (Option.bind (S.s_l01Int ((1 : Int) , ())) (fun (y0 : ((Bool × ((List Int) × (List Int))) × Unit)) => (some ((y0.1.1 , (y0.1.2.1 , y0.1.2.2)) , ()))))
def S.s_l01One (x : Unit) : (Option ((Bool × ((List Int) × (List Int))) × Unit)) := P.s_l01One 0 x
theorem S.s_l01One_ok (x : Unit) (r : _) (h : S.s_l01One x = some r) : ∃ k, P.s_l01One k x = some r := ⟨0, h⟩
abbrev P.s_l01NatMul_b3 (g2 : ((Int × (Int × ((List Int) × ((List Int) × ((List Int) × Unit))))) → (Option ((List Int) × Unit)))) (x4 : (Int × (Int × ((List Int) × (Int × ((List Int) × ((List Int) × (Int × (Int × (Int × Unit)))))))))) (g5 : (Int × (Int × ((List Int) × (Int × ((List Int) × ((List Int) × (Int × (Int × (Int × Unit))))))))) → Option ((List Int) × Unit)) : Option ((List Int) × Unit) :=
 (if ((decide (x4.1 < x4.2.1)) = true) then (if ((decide ((0 : Int) ≤ (Go.IntKind.wrap Go.IntKind.i64 (x4.2.2.2.1 + x4.1)))) = true) then (if ((decide ((Go.IntKind.wrap Go.IntKind.i64 (x4.2.2.2.1 + x4.1)) < (((List.length x4.2.2.1) : Nat) : Int))) = true) then (if ((decide ((0 : Int) ≤ x4.2.2.2.1)) = true) then (if ((decide (x4.2.2.2.1 < (((List.length x4.2.2.2.2.1) : Nat) : Int))) = true) then (if ((decide ((0 : Int) ≤ x4.1)) = true) then (if ((decide (x4.1 < (((List.length x4.2.2.2.2.2.1) : Nat) : Int))) = true) then (if ((decide ((0 : Int) ≤ (Go.IntKind.wrap Go.IntKind.i64 (x4.2.2.2.1 + x4.1)))) = true) then (if ((decide ((Go.IntKind.wrap Go.IntKind.i64 (x4.2.2.2.1 + x4.1)) < (((List.length x4.2.2.1) : Nat) : Int))) = true) then (g5 ((Go.IntKind.wrap Go.IntKind.i64 (x4.1 + (1 : Int))) , (x4.2.1 , ((List.set x4.2.2.1 ((0 : Nat) + (Int.toNat (Go.IntKind.wrap Go.IntKind.i64 (x4.2.2.2.1 + x4.1)))) (Int.tmod (Go.IntKind.wrap Go.IntKind.i64 ((Go.IntKind.wrap Go.IntKind.i64 ((List.getD x4.2.2.1 ((0 : Nat) + (Int.toNat (Go.IntKind.wrap Go.IntKind.i64 (x4.2.2.2.1 + x4.1)))) (0 : Int)) + (Go.IntKind.wrap Go.IntKind.i64 ((List.getD x4.2.2.2.2.1 (Int.toNat x4.2.2.2.1) (0 : Int)) * (List.getD x4.2.2.2.2.2.1 (Int.toNat x4.1) (0 : Int)))))) + x4.2.2.2.2.2.2.1)) (1000000000 : Int))) , (x4.2.2.2.1 , (x4.2.2.2.2.1 , (x4.2.2.2.2.2.1 , ((Go.IntKind.wrap Go.IntKind.i64 (Int.tdiv (Go.IntKind.wrap Go.IntKind.i64 ((Go.IntKind.wrap Go.IntKind.i64 ((List.getD x4.2.2.1 ((0 : Nat) + (Int.toNat (Go.IntKind.wrap Go.IntKind.i64 (x4.2.2.2.1 + x4.1)))) (0 : Int)) + (Go.IntKind.wrap Go.IntKind.i64 ((List.getD x4.2.2.2.2.1 (Int.toNat x4.2.2.2.1) (0 : Int)) * (List.getD x4.2.2.2.2.2.1 (Int.toNat x4.1) (0 : Int)))))) + x4.2.2.2.2.2.2.1)) (1000000000 : Int))) , (x4.2.2.2.2.2.2.2.1 , (x4.2.2.2.2.2.2.2.2.1 , ()))))))))))
 else none)
 else none)
 else none)
 else none)
 else none)
 else none)
 else none)
 else none)
 else (if ((decide ((0 : Int) ≤ (Go.IntKind.wrap Go.IntKind.i64 (x4.2.2.2.1 + (((List.length x4.2.2.2.2.2.1) : Nat) : Int))))) = true) then (if ((decide ((Go.IntKind.wrap Go.IntKind.i64 (x4.2.2.2.1 + (((List.length x4.2.2.2.2.2.1) : Nat) : Int))) < (((List.length x4.2.2.1) : Nat) : Int))) = true) then (if ((decide ((0 : Int) ≤ (Go.IntKind.wrap Go.IntKind.i64 (x4.2.2.2.1 + (((List.length x4.2.2.2.2.2.1) : Nat) : Int))))) = true) then (if ((decide ((Go.IntKind.wrap Go.IntKind.i64 (x4.2.2.2.1 + (((List.length x4.2.2.2.2.2.1) : Nat) : Int))) < (((List.length x4.2.2.1) : Nat) : Int))) = true) then (g2 ((Go.IntKind.wrap Go.IntKind.i64 (x4.2.2.2.2.2.2.2.1 + (1 : Int))) , (x4.2.2.2.2.2.2.2.2.1 , (x4.2.2.2.2.2.1 , ((List.set x4.2.2.1 ((0 : Nat) + (Int.toNat (Go.IntKind.wrap Go.IntKind.i64 (x4.2.2.2.1 + (((List.length x4.2.2.2.2.2.1) : Nat) : Int))))) (Go.IntKind.wrap Go.IntKind.i64 ((List.getD x4.2.2.1 ((0 : Nat) + (Int.toNat (Go.IntKind.wrap Go.IntKind.i64 (x4.2.2.2.1 + (((List.length x4.2.2.2.2.2.1) : Nat) : Int))))) (0 : Int)) + x4.2.2.2.2.2.2.1))) , (x4.2.2.2.2.1 , ()))))))
 else none)
 else none)
 else none)
 else none))
abbrev P.s_l01NatMul_b0 (k : Nat) (x1 : (Int × (Int × ((List Int) × ((List Int) × ((List Int) × Unit)))))) (g2 : (Int × (Int × ((List Int) × ((List Int) × ((List Int) × Unit))))) → Option ((List Int) × Unit)) : Option ((List Int) × Unit) :=
 (if ((decide (x1.1 < x1.2.1)) = true) then (loopP (X := (Int × (Int × ((List Int) × (Int × ((List Int) × ((List Int) × (Int × (Int × (Int × Unit)))))))))) (R := ((List Int) × Unit)) (P.s_l01NatMul_b3 g2) k ((0 : Int) , ((((List.length x1.2.2.1) : Nat) : Int) , (x1.2.2.2.1 , (x1.1 , (x1.2.2.2.2.1 , (x1.2.2.1 , ((0 : Int) , (x1.1 , (x1.2.1 , ()))))))))))
 else (Option.bind (S.s_l01Trim (x1.2.2.2.1 , ())) (fun (y6 : ((List Int) × Unit)) => (some (y6.1 , ())))))
def P.s_l01NatMul (k : Nat) (x : ((List Int) × ((List Int) × Unit))) : (Option ((List Int) × Unit)) :=
 (if ((decide ((0 : Int) ≤ (Go.IntKind.wrap Go.IntKind.i64 ((((List.length x.1) : Nat) : Int) + (((List.length x.2.1) : Nat) : Int))))) = true) then (if ((decide ((Go.IntKind.wrap Go.IntKind.i64 ((((List.length x.1) : Nat) : Int) + (((List.length x.2.1) : Nat) : Int))) ≤ (Go.IntKind.wrap Go.IntKind.i64 ((((List.length x.1) : Nat) : Int) + (((List.length x.2.1) : Nat) : Int))))) = true) then (if ((decide (((Go.IntKind.wrap Go.IntKind.i64 ((((List.length x.1) : Nat) : Int) + (((List.length x.2.1) : Nat) : Int))) * (8 : Int)) ≤ (281474976710656 : Int))) = true) then (loopP (X := (Int × (Int × ((List Int) × ((List Int) × ((List Int) × Unit)))))) (R := ((List Int) × Unit)) (P.s_l01NatMul_b0 k) k ((0 : Int) , ((((List.length x.1) : Nat) : Int) , (x.2.1 , ((List.replicate (Int.toNat (Go.IntKind.wrap Go.IntKind.i64 ((((List.length x.1) : Nat) : Int) + (((List.length x.2.1) : Nat) : Int)))) (0 : Int)) , (x.1 , ()))))))
 else none)
 else none)
 else none)
theorem sm_inner (g : (Int × (Int × ((List Int) × ((List Int) × ((List Int) × Unit))))) → (Option ((List Int) × Unit))) (F : Option ((List Int) × Unit)) {xs ys : List Int} (hx : dig B10 xs = true) (hy : dig B10 ys = true) (hlx : xs.length ≤ 10000000000) (hly : ys.length ≤ 10000000000) {i : Nat} (hi : i < xs.length) (K : Nat) (hK : ys.length < K)
    (hg : g (((i + 1 : Nat) : Int), ((xs.length : Int), (ys, (fd B10 (xs.length + ys.length) (dval B10 (xs.take (i + 1)) * dval B10 ys), (xs, ()))))) = F) :
    loopP (P.s_l01NatMul_b3 g) K ((0 : Int), ((ys.length : Int), (fd B10 (xs.length + ys.length) (dval B10 (xs.take i) * dval B10 ys), ((i : Int), (xs, (ys, ((0 : Int), ((i : Int), ((xs.length : Int), ()))))))))) = F := by
  have hA := mul_bound B10_le hx hy i (by omega)
  have hA' := mul_bound B10_le hx hy (i + 1) (by omega)
  have gx := dig_getD (B := B10) (by decide) hx i
  have gx1 : xs.getD i 0 < 1000000000 := gx.2
  have gx0 := gx.1
  rw [dval_take_succ, Nat.add_mul, Nat.mul_assoc] at hg hA'
  generalize dval B10 (xs.take i) * dval B10 ys = A at *
  obtain ⟨x, hxe⟩ : ∃ x : Nat, xs.getD i 0 = (x : Int) := ⟨(xs.getD i 0).toNat, by omega⟩
  rw [hxe, Int.toNat_natCast] at hg hA'
  rw [hxe] at gx1
  have hxB : x < B10 := by show x < 1000000000; omega
  have hsh := mul_shape B10_le hi hA
  rw [hsh]
  have hlw : (fd B10 ys.length (A / B10 ^ i)).length = ys.length := fd_len _ _ _
  have hdw : dig B10 (fd B10 ys.length (A / B10 ^ i)) = true := dig_fd (by decide) _ _
  have hvw : dval B10 (fd B10 ys.length (A / B10 ^ i)) = A / B10 ^ i := by
    rw [dval_fd, Nat.mod_eq_of_lt]
    rw [Nat.div_lt_iff_lt_mul (Nat.pow_pos (by decide)), ← Nat.pow_add, Nat.add_comm]
    exact hA
  have hnext := mul_next B10_le (la := xs.length) (lb := ys.length) (R := x * dval B10 ys) hi hA'
  generalize hR : List.replicate (xs.length - 1 - i) (0 : Int) = R at *
  have hRl : R.length = xs.length - 1 - i := by rw [← hR, List.length_replicate]
  generalize hW : fd B10 ys.length (A / B10 ^ i) = W at *
  have hl0 : (fd B10 i A).length = i := fd_len _ _ _
  have key := loop_up0 (k := K) (b := P.s_l01NatMul_b3 g) (n := ys.length) (st := fun k => ((k : Int), (ys.length : Int), (fd B10 i A ++ (maUp B10 x W ys k).1) ++ (W.drop k ++ (0 : Int) :: R), (i : Int), xs, ys, ((maUp B10 x W ys k).2 : Int), (i : Int), (xs.length : Int), ())) (F := fun k => F) (fun k g' hk hg' => by
    unfold P.s_l01NatMul_b3
    dsimp only at hg' ⊢
    refine Eq.trans ?_ hg'
    clear hg'
    obtain ⟨q1, q2, q3, q4⟩ := maUp_ok (x := x) B10_le hxB hdw hy k
    have q4' : (maUp B10 x W ys k).2 < 1000000000 := q4
    have gy := dig_getD (B := B10) (by decide) hy k
    have gw := dig_getD (B := B10) (by decide) hdw k
    have gy1 : ys.getD k 0 < 1000000000 := gy.2
    have gw1 : W.getD k 0 < 1000000000 := gw.2
    have gy0 := gy.1
    have gw0 := gw.1
    have hAl : (fd B10 i A ++ (maUp B10 x W ys k).1).length = i + k := by rw [List.length_append, hl0, q2]
    have hlen : ((fd B10 i A ++ (maUp B10 x W ys k).1) ++ (W.drop k ++ (0 : Int) :: R)).length = xs.length + ys.length := by
      rw [List.length_append, hAl, List.length_append, List.length_drop, List.length_cons, hlw, hRl]
      omega
    have e1 : (k : Int) < (ys.length : Int) := by omega
    have e2 : (0 : Int) ≤ (k : Int) := by omega
    have e3 : (0 : Int) ≤ ((i + k : Nat) : Int) := by omega
    have e4 : ((i + k : Nat) : Int) < ((xs.length + ys.length : Nat) : Int) := by omega
    have e5 : (0 : Int) ≤ (i : Int) := by omega
    have e6 : (i : Int) < (xs.length : Int) := by omega
    rw [hlen, ← Int.natCast_add i k, wr (x := ((i + k : Nat) : Int)) (by omega) (by omega)]
    simp only [e1, e2, e3, e4, e5, e6, decide_true, if_true, Nat.zero_add, Int.toNat_natCast]
    rw [drop_cons_getD (xs := W) (i := k) (by omega), List.cons_append, mid_get hAl, hxe]
    simp only [mid_set hAl]
    rw [maUp]
    dsimp only
    generalize W.getD k 0 = w at *
    generalize ys.getD k 0 = y at *
    generalize maUp B10 x W ys k = p at *
    obtain ⟨pl, c0⟩ := p
    dsimp only at *
    obtain ⟨Y, rfl⟩ : ∃ Y : Nat, y = (Y : Int) := ⟨y.toNat, by omega⟩
    obtain ⟨w', rfl⟩ : ∃ Y : Nat, w = (Y : Int) := ⟨w.toNat, by omega⟩
    rw [Int.toNat_natCast, Int.toNat_natCast]
    have hxY : x * Y ≤ 999999999 * 999999999 := Nat.mul_le_mul (by omega) (by omega)
    rw [← Int.natCast_mul, wr (x := ((x * Y : Nat) : Int)) (by omega) (by omega), ← Int.natCast_add, wr (x := ((w' + x * Y : Nat) : Int)) (by omega) (by omega), ← Int.natCast_add, wr (x := ((w' + x * Y + c0 : Nat) : Int)) (by omega) (by omega), Int.tdiv_eq_ediv_of_nonneg (by omega), Int.tmod_eq_emod_of_nonneg (by omega), wr (x := (k : Int) + 1) (by omega) (by omega)]
    have e8 : ((w' + x * Y + c0 : Nat) : Int) % 1000000000 = (((c0 + (x * Y + w')) % B10 : Nat) : Int) := by
      show _ = (((c0 + (x * Y + w')) % 1000000000 : Nat) : Int)
      omega
    have e9 : ((w' + x * Y + c0 : Nat) : Int) / 1000000000 = (((c0 + (x * Y + w')) / B10 : Nat) : Int) := by
      show _ = (((c0 + (x * Y + w')) / 1000000000 : Nat) : Int)
      omega
    have e10 : (c0 + (x * Y + w')) / B10 ≤ 4000000000 := by
      show (c0 + (x * Y + w')) / 1000000000 ≤ _
      omega
    rw [e8, e9, wr (x := (((c0 + (x * Y + w')) / B10 : Nat) : Int)) (by omega) (by omega), ← List.append_assoc (fd B10 i A)]
    rfl) (fun g' => by
    unfold P.s_l01NatMul_b3
    dsimp only
    obtain ⟨q1, q2, q3, q4⟩ := maUp_ok (x := x) B10_le hxB hdw hy ys.length
    have q4' : (maUp B10 x W ys ys.length).2 < 1000000000 := q4
    rw [List.take_length, ← hlw, List.take_length, hlw, hvw] at q3
    have hAl : (fd B10 i A ++ (maUp B10 x W ys ys.length).1).length = i + ys.length := by rw [List.length_append, hl0, q2]
    have hlen : ((fd B10 i A ++ (maUp B10 x W ys ys.length).1) ++ (W.drop ys.length ++ (0 : Int) :: R)).length = xs.length + ys.length := by
      rw [List.length_append, hAl, List.length_append, List.length_drop, List.length_cons, hlw, hRl]
      omega
    have e1 : ¬ ((ys.length : Int) < (ys.length : Int)) := by omega
    have e3 : (0 : Int) ≤ ((i + ys.length : Nat) : Int) := by omega
    have e4 : ((i + ys.length : Nat) : Int) < ((xs.length + ys.length : Nat) : Int) := by omega
    rw [hlen, ← Int.natCast_add i ys.length, wr (x := ((i + ys.length : Nat) : Int)) (by omega) (by omega)]
    simp only [e1, e3, e4, decide_true, decide_false, if_true, if_false, Bool.false_eq_true, Nat.zero_add, Int.toNat_natCast]
    rw [List.drop_of_length_le (by omega), List.nil_append, mid_get hAl, mid_set hAl, Int.zero_add, wr (x := ((maUp B10 x W ys ys.length).2 : Int)) (by omega) (by omega), wr (x := (i : Int) + 1) (by omega) (by omega)]
    generalize maUp B10 x W ys ys.length = p at *
    obtain ⟨pl, c0⟩ := p
    dsimp only at *
    have hlt := dval_lt q1
    rw [q2] at hlt
    have hpl : pl = fd B10 ys.length (A / B10 ^ i + x * dval B10 ys) := by
      have := fd_eq B10_le q1 q2 rfl
      rw [this, ← q3, ← fd_mod B10 ys.length (_ + _), Nat.add_mul_mod_self_left, fd_mod]
    have hc0 : c0 = (A / B10 ^ i + x * dval B10 ys) / B10 ^ ys.length := by
      rw [← q3, Nat.add_mul_div_left _ _ (Nat.pow_pos (by decide)), Nat.div_eq_of_lt hlt, Nat.zero_add]
    rw [List.append_assoc _ [_], List.singleton_append, hpl, hc0, hnext]
    exact hg) hK
  rw [show (fd B10 i A ++ (maUp B10 x W ys 0).1) ++ (W.drop 0 ++ (0 : Int) :: R) = (fd B10 i A ++ W) ++ (0 : Int) :: R by rw [show (maUp B10 x W ys 0).1 = [] from rfl, List.append_nil, List.drop_zero, List.append_assoc]] at key
  exact key
def S.s_l01NatMul (x : ((List Int) × ((List Int) × Unit))) : (Option ((List Int) × Unit)) := if dig B10 x.1 = true ∧ dig B10 x.2.1 = true ∧ x.1.length ≤ 10000000000 ∧ x.2.1.length ≤ 10000000000 then some (nd B10 (dval B10 x.1 * dval B10 x.2.1), ()) else none
theorem S.s_l01NatMul_ok (x : ((List Int) × ((List Int) × Unit))) (r : _) (h : S.s_l01NatMul x = some r) : ∃ k, P.s_l01NatMul k x = some r := by
  obtain ⟨xs, ys, u⟩ := x
  unfold S.s_l01NatMul at h
  dsimp only at h
  split at h
  case isFalse => cases h
  rename_i hc
  obtain ⟨dx, dy, lx, ly⟩ := hc
  cases h
  refine ⟨xs.length + ys.length + 1, ?_⟩
  unfold P.s_l01NatMul
  dsimp only
  have a1 : (0 : Int) ≤ ((xs.length + ys.length : Nat) : Int) := by omega
  have a2 : ((xs.length + ys.length : Nat) : Int) * 8 ≤ 281474976710656 := by omega
  rw [← Int.natCast_add, wr (x := ((xs.length + ys.length : Nat) : Int)) (by omega) (by omega)]
  simp only [a1, a2, decide_true, if_true, Int.le_refl, Int.toNat_natCast]
  have key := loop_up0 (k := xs.length + ys.length + 1) (b := P.s_l01NatMul_b0 (xs.length + ys.length + 1)) (n := xs.length) (st := fun i => ((i : Int), (xs.length : Int), ys, fd B10 (xs.length + ys.length) (dval B10 (xs.take i) * dval B10 ys), xs, ())) (F := fun i => some (nd B10 (dval B10 xs * dval B10 ys), ())) (fun i g hi hg => by
    unfold P.s_l01NatMul_b0
    dsimp only at hg ⊢
    have e1 : (i : Int) < (xs.length : Int) := by omega
    simp only [e1, decide_true, if_true]
    exact sm_inner g _ dx dy lx ly hi _ (by omega) hg) (fun g => by
    unfold P.s_l01NatMul_b0
    dsimp only
    rw [if_neg (by simp), List.take_length]
    unfold S.s_l01Trim
    dsimp only
    have hb := mul_bound B10_le dx dy xs.length (Nat.le_refl _)
    rw [List.take_length] at hb
    rw [if_pos ⟨dig_fd (by decide) _ _, by rw [fd_len]; omega⟩, Option.bind_some, nd_fd B10_le hb]) (by omega)
  rw [List.take_zero, show dval B10 [] * dval B10 ys = 0 by simp [dval], fd_zero] at key
  exact key
abbrev P.s_l01NatAdd_b0  (x1 : (Int × ((List Int) × ((List Int) × (Int × ((List Int) × Unit)))))) (g2 : (Int × ((List Int) × ((List Int) × (Int × ((List Int) × Unit))))) → Option ((List Int) × Unit)) : Option ((List Int) × Unit) :=
 (if ((decide (x1.1 < (((List.length x1.2.1) : Nat) : Int))) = true) then (Option.bind (S.s_l01Digit (x1.2.1 , (x1.1 , ()))) (fun (y3 : (Int × Unit)) => (Option.bind (S.s_l01Digit (x1.2.2.1 , (x1.1 , ()))) (fun (y4 : (Int × Unit)) => (if ((decide ((((List.length x1.2.2.2.2.1) + (List.length ((Int.tmod (Go.IntKind.wrap Go.IntKind.i64 ((Go.IntKind.wrap Go.IntKind.i64 (y3.1 + y4.1)) + x1.2.2.2.1)) (1000000000 : Int)) :: ([] : List Int)))) * (8 : Nat)) ≤ (140737488355328 : Nat))) = true) then (g2 ((Go.IntKind.wrap Go.IntKind.i64 (x1.1 + (1 : Int))) , (x1.2.1 , (x1.2.2.1 , ((Go.IntKind.wrap Go.IntKind.i64 (Int.tdiv (Go.IntKind.wrap Go.IntKind.i64 ((Go.IntKind.wrap Go.IntKind.i64 (y3.1 + y4.1)) + x1.2.2.2.1)) (1000000000 : Int))) , ((x1.2.2.2.2.1 ++ ((Int.tmod (Go.IntKind.wrap Go.IntKind.i64 ((Go.IntKind.wrap Go.IntKind.i64 (y3.1 + y4.1)) + x1.2.2.2.1)) (1000000000 : Int)) :: ([] : List Int))) , ()))))))
 else none)))))
 else (if ((decide (x1.1 < (((List.length x1.2.2.1) : Nat) : Int))) = true) then (Option.bind (S.s_l01Digit (x1.2.1 , (x1.1 , ()))) (fun (y5 : (Int × Unit)) => (Option.bind (S.s_l01Digit (x1.2.2.1 , (x1.1 , ()))) (fun (y6 : (Int × Unit)) => (if ((decide ((((List.length x1.2.2.2.2.1) + (List.length ((Int.tmod (Go.IntKind.wrap Go.IntKind.i64 ((Go.IntKind.wrap Go.IntKind.i64 (y5.1 + y6.1)) + x1.2.2.2.1)) (1000000000 : Int)) :: ([] : List Int)))) * (8 : Nat)) ≤ (140737488355328 : Nat))) = true) then (g2 ((Go.IntKind.wrap Go.IntKind.i64 (x1.1 + (1 : Int))) , (x1.2.1 , (x1.2.2.1 , ((Go.IntKind.wrap Go.IntKind.i64 (Int.tdiv (Go.IntKind.wrap Go.IntKind.i64 ((Go.IntKind.wrap Go.IntKind.i64 (y5.1 + y6.1)) + x1.2.2.2.1)) (1000000000 : Int))) , ((x1.2.2.2.2.1 ++ ((Int.tmod (Go.IntKind.wrap Go.IntKind.i64 ((Go.IntKind.wrap Go.IntKind.i64 (y5.1 + y6.1)) + x1.2.2.2.1)) (1000000000 : Int)) :: ([] : List Int))) , ()))))))
 else none)))))
 else (if ((decide (x1.2.2.2.1 > (0 : Int))) = true) then (Option.bind (S.s_l01Digit (x1.2.1 , (x1.1 , ()))) (fun (y7 : (Int × Unit)) => (Option.bind (S.s_l01Digit (x1.2.2.1 , (x1.1 , ()))) (fun (y8 : (Int × Unit)) => (if ((decide ((((List.length x1.2.2.2.2.1) + (List.length ((Int.tmod (Go.IntKind.wrap Go.IntKind.i64 ((Go.IntKind.wrap Go.IntKind.i64 (y7.1 + y8.1)) + x1.2.2.2.1)) (1000000000 : Int)) :: ([] : List Int)))) * (8 : Nat)) ≤ (140737488355328 : Nat))) = true) then (g2 ((Go.IntKind.wrap Go.IntKind.i64 (x1.1 + (1 : Int))) , (x1.2.1 , (x1.2.2.1 , ((Go.IntKind.wrap Go.IntKind.i64 (Int.tdiv (Go.IntKind.wrap Go.IntKind.i64 ((Go.IntKind.wrap Go.IntKind.i64 (y7.1 + y8.1)) + x1.2.2.2.1)) (1000000000 : Int))) , ((x1.2.2.2.2.1 ++ ((Int.tmod (Go.IntKind.wrap Go.IntKind.i64 ((Go.IntKind.wrap Go.IntKind.i64 (y7.1 + y8.1)) + x1.2.2.2.1)) (1000000000 : Int)) :: ([] : List Int))) , ()))))))
 else none)))))
 else (some (x1.2.2.2.2.1 , ())))))
def P.s_l01NatAdd (k : Nat) (x : ((List Int) × ((List Int) × Unit))) : (Option ((List Int) × Unit)) :=
 (loopP (X := (Int × ((List Int) × ((List Int) × (Int × ((List Int) × Unit)))))) (R := ((List Int) × Unit)) (P.s_l01NatAdd_b0 ) k ((0 : Int) , (x.1 , (x.2.1 , ((0 : Int) , (([] : List Int) , ()))))))
theorem digit_atA (xs : List Int) (i : Nat) (h : xs.length ≤ 100000000000) : S.s_l01Digit (xs, ((i : Int), ())) = some (xs.getD i 0, ()) := by
  unfold S.s_l01Digit P.s_l01Digit
  dsimp only
  by_cases hi : (i : Int) < (xs.length : Int)
  · have h0 : (0 : Int) ≤ (i : Int) := by omega
    rw [if_pos (decide_eq_true hi), if_pos (decide_eq_true h0), if_pos (decide_eq_true hi), Int.toNat_natCast]
  · rw [if_neg (by simpa using hi), List.getD_eq_getElem?_getD, List.getElem?_eq_none (by omega)]
    rfl
theorem addA_round (xs ys : List Int) (dx : dig B10 xs = true) (dy : dig B10 ys = true) (lx : xs.length ≤ 10000000000) (ly : ys.length ≤ 10000000000) (i : Nat) (hi : i ≤ 100000000000) (hc : i < xs.length ∨ i < ys.length ∨ 0 < (addUp B10 xs ys i).2) (g : (Int × ((List Int) × ((List Int) × (Int × ((List Int) × Unit))))) → Option ((List Int) × Unit)) :
    P.s_l01NatAdd_b0 ((i : Int), xs, ys, ((addUp B10 xs ys i).2 : Int), (addUp B10 xs ys i).1, ()) g = g (((i + 1 : Nat) : Int), xs, ys, ((addUp B10 xs ys (i + 1)).2 : Int), (addUp B10 xs ys (i + 1)).1, ()) := by
  obtain ⟨q1, q2, q3, q4⟩ := addUp_ok B10_le dx dy i
  have gx := dig_getD (B := B10) (by decide) dx i
  have gy := dig_getD (B := B10) (by decide) dy i
  have gx1 : xs.getD i 0 < 1000000000 := gx.2
  have gy1 : ys.getD i 0 < 1000000000 := gy.2
  have gx0 := gx.1
  have gy0 := gy.1
  have body : (Option.bind (S.s_l01Digit (xs , ((i : Int) , ()))) (fun (y3 : (Int × Unit)) => (Option.bind (S.s_l01Digit (ys , ((i : Int) , ()))) (fun (y4 : (Int × Unit)) => (if ((decide ((((List.length (addUp B10 xs ys i).1) + (List.length ((Int.tmod (Go.IntKind.wrap Go.IntKind.i64 ((Go.IntKind.wrap Go.IntKind.i64 (y3.1 + y4.1)) + ((addUp B10 xs ys i).2 : Int))) (1000000000 : Int)) :: ([] : List Int)))) * (8 : Nat)) ≤ (140737488355328 : Nat))) = true) then (g ((Go.IntKind.wrap Go.IntKind.i64 ((i : Int) + (1 : Int))) , (xs , (ys , ((Go.IntKind.wrap Go.IntKind.i64 (Int.tdiv (Go.IntKind.wrap Go.IntKind.i64 ((Go.IntKind.wrap Go.IntKind.i64 (y3.1 + y4.1)) + ((addUp B10 xs ys i).2 : Int))) (1000000000 : Int))) , (((addUp B10 xs ys i).1 ++ ((Int.tmod (Go.IntKind.wrap Go.IntKind.i64 ((Go.IntKind.wrap Go.IntKind.i64 (y3.1 + y4.1)) + ((addUp B10 xs ys i).2 : Int))) (1000000000 : Int)) :: ([] : List Int))) , ()))))))
 else none))))) = g (((i + 1 : Nat) : Int), xs, ys, ((addUp B10 xs ys (i + 1)).2 : Int), (addUp B10 xs ys (i + 1)).1, ()) := by
    rw [digit_atA xs i (by omega), Option.bind_some, digit_atA ys i (by omega), Option.bind_some]
    dsimp only
    rw [addUp]
    generalize xs.getD i 0 = x at *
    generalize ys.getD i 0 = y at *
    generalize addUp B10 xs ys i = p at *
    obtain ⟨pl, c0⟩ := p
    dsimp only at *
    obtain ⟨X, rfl⟩ : ∃ Y : Nat, x = (Y : Int) := ⟨x.toNat, by omega⟩
    obtain ⟨Y, rfl⟩ : ∃ Y : Nat, y = (Y : Int) := ⟨y.toNat, by omega⟩
    rw [Int.toNat_natCast, Int.toNat_natCast, wr (x := (X : Int) + (Y : Int)) (by omega) (by omega), wr (x := (X : Int) + (Y : Int) + (c0 : Int)) (by omega) (by omega), Int.tmod_eq_emod_of_nonneg (by omega), Int.tdiv_eq_ediv_of_nonneg (by omega)]
    have e8 : ((X : Int) + (Y : Int) + (c0 : Int)) % 1000000000 = (((c0 + X + Y) % B10 : Nat) : Int) := by
      show _ = (((c0 + X + Y) % 1000000000 : Nat) : Int)
      omega
    have e9 : ((X : Int) + (Y : Int) + (c0 : Int)) / 1000000000 = (((c0 + X + Y) / B10 : Nat) : Int) := by
      show _ = (((c0 + X + Y) / 1000000000 : Nat) : Int)
      omega
    have b2 : (c0 + X + Y) / B10 ≤ 1000000000 := by
      show (c0 + X + Y) / 1000000000 ≤ 1000000000
      omega
    have hcap : (pl.length + [(((c0 + X + Y) % B10 : Nat) : Int)].length) * 8 ≤ 140737488355328 := by
      rw [q2, List.length_singleton]
      omega
    rw [e8, e9, if_pos (decide_eq_true hcap), wr (x := (((c0 + X + Y) / B10 : Nat) : Int)) (by omega) (by omega), wr (x := (i : Int) + 1) (by omega) (by omega)]
    rfl
  unfold P.s_l01NatAdd_b0
  dsimp only
  by_cases h1 : i < xs.length
  · have h1' : (i : Int) < (xs.length : Int) := by omega
    rw [if_pos (decide_eq_true h1')]
    exact body
  · have h1' : ¬ (i : Int) < (xs.length : Int) := by omega
    rw [if_neg (by simpa using h1')]
    by_cases h2 : i < ys.length
    · have h2' : (i : Int) < (ys.length : Int) := by omega
      rw [if_pos (decide_eq_true h2')]
      exact body
    · have h2' : ¬ (i : Int) < (ys.length : Int) := by omega
      have h3 : ((addUp B10 xs ys i).2 : Int) > 0 := by
        rcases hc with h | h | h
        · exact absurd h h1
        · exact absurd h h2
        · omega
      rw [if_neg (by simpa using h2'), if_pos (decide_eq_true h3)]
      exact body
def S.s_l01NatAdd (x : ((List Int) × ((List Int) × Unit))) : (Option ((List Int) × Unit)) := if canon B10 x.1 = true ∧ canon B10 x.2.1 = true ∧ x.1.length ≤ 10000000000 ∧ x.2.1.length ≤ 10000000000 then some (nd B10 (dval B10 x.1 + dval B10 x.2.1), ()) else none
theorem S.s_l01NatAdd_ok (x : ((List Int) × ((List Int) × Unit))) (r : _) (h : S.s_l01NatAdd x = some r) : ∃ k, P.s_l01NatAdd k x = some r := by
  obtain ⟨xs, ys, u⟩ := x
  unfold S.s_l01NatAdd at h
  dsimp only at h
  split at h
  case isFalse => cases h
  rename_i hc
  obtain ⟨cx, cy, lx, ly⟩ := hc
  cases h
  have dx := canon_dig cx
  have dy := canon_dig cy
  obtain ⟨N, hN, hNx, hNy, hNle⟩ : ∃ N, (N = xs.length ∨ N = ys.length) ∧ xs.length ≤ N ∧ ys.length ≤ N ∧ N ≤ 10000000000 := by
    by_cases h : xs.length ≤ ys.length
    · exact ⟨ys.length, .inr rfl, h, Nat.le_refl _, ly⟩
    · exact ⟨xs.length, .inl rfl, Nat.le_refl _, by omega, lx⟩
  obtain ⟨q1, q2, q3, q4⟩ := addUp_ok B10_le dx dy N
  rw [List.take_of_length_le hNx, List.take_of_length_le hNy] at q3
  -- as many rounds as the sum has digits
  obtain ⟨n, hn, hfull⟩ : ∃ n, (n = N ∧ (addUp B10 xs ys N).2 = 0 ∨ n = N + 1 ∧ 0 < (addUp B10 xs ys N).2) ∧ (n = 0 ∨ B10 ^ (n - 1) ≤ dval B10 xs + dval B10 ys) := by
    by_cases h : (addUp B10 xs ys N).2 = 0
    · refine ⟨N, .inl ⟨rfl, h⟩, ?_⟩
      have one : ∀ zs : List Int, canon B10 zs = true → zs = [] ∨ B10 ^ (zs.length - 1) ≤ dval B10 zs := by
        intro zs cz
        by_cases hz : zs = []
        · exact .inl hz
        · have h0 : dval B10 zs ≠ 0 := fun e => hz ((canon_nil B10_le cz).2 e)
          have := nd_low B10_le h0
          rw [canon_eq cz] at this
          exact .inr this
      rcases hN with e | e
      · rcases one xs cx with h2 | h2
        · left; rw [e, h2]; rfl
        · right; rw [e]; omega
      · rcases one ys cy with h2 | h2
        · left; rw [e, h2]; rfl
        · right; rw [e]; omega
    · refine ⟨N + 1, .inr ⟨rfl, by omega⟩, .inr ?_⟩
      rw [Nat.add_sub_cancel]
      have : B10 ^ N * 1 ≤ B10 ^ N * (addUp B10 xs ys N).2 := Nat.mul_le_mul_left _ (by omega)
      omega
  obtain ⟨r1, r2, r3, r4⟩ := addUp_ok B10_le dx dy n
  rw [List.take_of_length_le (by omega), List.take_of_length_le (by omega)] at r3
  have hlast : (addUp B10 xs ys n).2 = 0 := by
    rcases hn with ⟨rfl, h⟩ | ⟨rfl, h⟩
    · exact h
    · rw [addUp]
      rw [List.getD_eq_getElem?_getD, List.getElem?_eq_none (by omega), List.getD_eq_getElem?_getD, List.getElem?_eq_none (by omega)]
      show ((addUp B10 xs ys N).2 + 0 + 0) / 1000000000 = 0
      omega
  rw [hlast, Nat.mul_zero, Nat.add_zero] at r3
  refine ⟨n + 1, ?_⟩
  unfold P.s_l01NatAdd
  dsimp only
  have key := loop_up0 (k := n + 1) (b := P.s_l01NatAdd_b0) (n := n) (st := fun i => ((i : Int), xs, ys, ((addUp B10 xs ys i).2 : Int), (addUp B10 xs ys i).1, ())) (F := fun i => some (nd B10 (dval B10 xs + dval B10 ys), ())) (fun i g hi hg => by
    rw [addA_round xs ys dx dy lx ly i (by omega) (by
      rcases hn with ⟨rfl, h⟩ | ⟨rfl, h⟩
      · omega
      · by_cases he : i = N
        · subst he
          exact .inr (.inr h)
        · omega)]
    exact hg) (fun g => by
    unfold P.s_l01NatAdd_b0
    dsimp only
    have h1 : ¬ (n : Int) < (xs.length : Int) := by omega
    have h2 : ¬ (n : Int) < (ys.length : Int) := by omega
    rw [if_neg (by simpa using h1), if_neg (by simpa using h2), hlast, if_neg (by simp), ← r3]
    rcases Nat.eq_zero_or_pos n with e | e
    · subst e
      show some ([], ()) = some (nd B10 0, ())
      rw [nd_zero B10_le]
    · have hv : B10 ^ (n - 1) ≤ dval B10 (addUp B10 xs ys n).1 := by
        rcases hfull with h | h
        · omega
        · omega
      have := nd_full B10_le r1 (fun q => by rw [q] at r2; simp at r2; omega) (by rw [r2]; exact hv)
      rw [this]) (by omega)
  exact key
abbrev P.s_l01NatLess_b0  (x1 : (Int × (Int × ((List Int) × ((List Int) × (Int × ((List Int) × Unit))))))) (g2 : (Int × (Int × ((List Int) × ((List Int) × (Int × ((List Int) × Unit)))))) → Option ((List Int) × Unit)) : Option ((List Int) × Unit) :=
 (if ((decide (x1.1 < x1.2.1)) = true) then (if ((decide ((0 : Int) ≤ x1.1)) = true) then (if ((decide (x1.1 < (((List.length x1.2.2.1) : Nat) : Int))) = true) then (Option.bind (S.s_l01Digit (x1.2.2.2.1 , (x1.1 , ()))) (fun (y3 : (Int × Unit)) => (if ((decide ((Go.IntKind.wrap Go.IntKind.i64 ((Go.IntKind.wrap Go.IntKind.i64 ((List.getD x1.2.2.1 (Int.toNat x1.1) (0 : Int)) - y3.1)) - x1.2.2.2.2.1)) < (0 : Int))) = true) then (if ((decide ((((List.length x1.2.2.2.2.2.1) + (List.length ((Go.IntKind.wrap Go.IntKind.i64 ((Go.IntKind.wrap Go.IntKind.i64 ((Go.IntKind.wrap Go.IntKind.i64 ((List.getD x1.2.2.1 (Int.toNat x1.1) (0 : Int)) - y3.1)) - x1.2.2.2.2.1)) + (1000000000 : Int))) :: ([] : List Int)))) * (8 : Nat)) ≤ (140737488355328 : Nat))) = true) then (g2 ((Go.IntKind.wrap Go.IntKind.i64 (x1.1 + (1 : Int))) , (x1.2.1 , (x1.2.2.1 , (x1.2.2.2.1 , ((1 : Int) , ((x1.2.2.2.2.2.1 ++ ((Go.IntKind.wrap Go.IntKind.i64 ((Go.IntKind.wrap Go.IntKind.i64 ((Go.IntKind.wrap Go.IntKind.i64 ((List.getD x1.2.2.1 (Int.toNat x1.1) (0 : Int)) - y3.1)) - x1.2.2.2.2.1)) + (1000000000 : Int))) :: ([] : List Int))) , ())))))))
 else none)
 else (if ((decide ((((List.length x1.2.2.2.2.2.1) + (List.length ((Go.IntKind.wrap Go.IntKind.i64 ((Go.IntKind.wrap Go.IntKind.i64 ((List.getD x1.2.2.1 (Int.toNat x1.1) (0 : Int)) - y3.1)) - x1.2.2.2.2.1)) :: ([] : List Int)))) * (8 : Nat)) ≤ (140737488355328 : Nat))) = true) then (g2 ((Go.IntKind.wrap Go.IntKind.i64 (x1.1 + (1 : Int))) , (x1.2.1 , (x1.2.2.1 , (x1.2.2.2.1 , ((0 : Int) , ((x1.2.2.2.2.2.1 ++ ((Go.IntKind.wrap Go.IntKind.i64 ((Go.IntKind.wrap Go.IntKind.i64 ((List.getD x1.2.2.1 (Int.toNat x1.1) (0 : Int)) - y3.1)) - x1.2.2.2.2.1)) :: ([] : List Int))) , ())))))))
 else none))))
 else none)
 else none)
 else (Option.bind (S.s_l01Trim (x1.2.2.2.2.2.1 , ())) (fun (y4 : ((List Int) × Unit)) => (some (y4.1 , ())))))
def P.s_l01NatLess (k : Nat) (x : ((List Int) × ((List Int) × Unit))) : (Option ((List Int) × Unit)) :=
 (loopP (X := (Int × (Int × ((List Int) × ((List Int) × (Int × ((List Int) × Unit))))))) (R := ((List Int) × Unit)) (P.s_l01NatLess_b0 ) k ((0 : Int) , ((((List.length x.1) : Nat) : Int) , (x.1 , (x.2.1 , ((0 : Int) , (([] : List Int) , ())))))))
theorem digit_at (xs : List Int) (i : Nat) (h : xs.length ≤ 100000000000) : S.s_l01Digit (xs, ((i : Int), ())) = some (xs.getD i 0, ()) := by
  unfold S.s_l01Digit P.s_l01Digit
  dsimp only
  by_cases hi : (i : Int) < (xs.length : Int)
  · have h0 : (0 : Int) ≤ (i : Int) := by omega
    rw [if_pos (decide_eq_true hi), if_pos (decide_eq_true h0), if_pos (decide_eq_true hi), Int.toNat_natCast]
  · rw [if_neg (by simpa using hi), List.getD_eq_getElem?_getD, List.getElem?_eq_none (by omega)]
    rfl
def S.s_l01NatLess (x : ((List Int) × ((List Int) × Unit))) : (Option ((List Int) × Unit)) := if dig B10 x.1 = true ∧ dig B10 x.2.1 = true ∧ x.2.1.length ≤ x.1.length ∧ dval B10 x.2.1 ≤ dval B10 x.1 ∧ x.1.length ≤ 10000000000 then some (nd B10 (dval B10 x.1 - dval B10 x.2.1), ()) else none
theorem S.s_l01NatLess_ok (x : ((List Int) × ((List Int) × Unit))) (r : _) (h : S.s_l01NatLess x = some r) : ∃ k, P.s_l01NatLess k x = some r := by
  obtain ⟨xs, ys, u⟩ := x
  unfold S.s_l01NatLess at h
  dsimp only at h
  split at h
  case isFalse => cases h
  rename_i hc
  obtain ⟨dx, dy, hl, hv, lx⟩ := hc
  cases h
  refine ⟨xs.length + 1, ?_⟩
  unfold P.s_l01NatLess
  dsimp only
  have key := loop_up0 (k := xs.length + 1) (b := P.s_l01NatLess_b0) (n := xs.length) (st := fun i => ((i : Int), (xs.length : Int), xs, ys, ((takeUp B10 1 xs ys i).2.2 : Int), (takeUp B10 1 xs ys i).1, ())) (F := fun i => some (nd B10 (dval B10 xs - dval B10 ys), ())) (fun i g hi hg => by
    unfold P.s_l01NatLess_b0
    dsimp only at hg ⊢
    refine Eq.trans ?_ hg
    clear hg
    obtain ⟨q1, q2, q3, q4, q5⟩ := takeUp_ok (t := 1) B10_le dx dy i
    have gx := dig_getD (B := B10) (by decide) dx i
    have gy := dig_getD (B := B10) (by decide) dy i
    have gx1 : xs.getD i 0 < 1000000000 := gx.2
    have gy1 : ys.getD i 0 < 1000000000 := gy.2
    have gx0 := gx.1
    have gy0 := gy.1
    have e1 : (i : Int) < (xs.length : Int) := by omega
    have e2 : (0 : Int) ≤ (i : Int) := by omega
    simp only [e1, e2, decide_true, if_true, Int.toNat_natCast]
    rw [digit_at ys i (by omega), Option.bind_some]
    dsimp only
    rw [(takeUp_one B10_le (xs := xs) dy i).2]
    dsimp only
    generalize (takeUp B10 1 xs ys i).1 = pl at *
    generalize (takeUp B10 1 xs ys i).2.2 = l0 at *
    obtain ⟨x, hx⟩ : ∃ x, xs.getD i 0 = x := ⟨_, rfl⟩
    obtain ⟨y, hy⟩ : ∃ y, ys.getD i 0 = y := ⟨_, rfl⟩
    simp only [hx, hy] at gx1 gx0 gy1 gy0 ⊢
    have hB : ((B10 : Nat) : Int) = 1000000000 := rfl
    have hcap : ∀ v : Int, (pl.length + [v].length) * 8 ≤ 140737488355328 := by
      intro v
      rw [q2, List.length_singleton]
      omega
    rw [wr (x := (i : Int) + 1) (by omega) (by omega), wr (x := x - y) (by omega) (by omega), wr (x := x - y - (l0 : Int)) (by omega) (by omega), wr (x := x - y - (l0 : Int) + 1000000000) (by omega) (by omega), hB]
    by_cases hn : x - y - (l0 : Int) < 0
    · rw [if_pos (decide_eq_true hn), if_pos (decide_eq_true (hcap _)), if_pos hn, show (x - y - (l0 : Int)) % 1000000000 = x - y - (l0 : Int) + 1000000000 by omega]
      rfl
    · have e11 : (x - y - (l0 : Int)) % 1000000000 = x - y - (l0 : Int) := by omega
      rw [if_neg (by simpa using hn), if_pos (decide_eq_true (hcap _)), if_neg hn, e11]
      rfl) (fun g => by
    unfold P.s_l01NatLess_b0
    dsimp only
    rw [if_neg (by simp), takeUp_fd B10_le dx dy hl hv]
    unfold S.s_l01Trim
    dsimp only
    have hb := dval_lt dx
    rw [if_pos ⟨dig_fd (by decide) _ _, by rw [fd_len]; omega⟩, Option.bind_some, nd_fd B10_le (by omega)]) (by omega)
  exact key
def P.s_l01Make (k : Nat) (x : (Bool × ((List Int) × ((List Int) × Unit)))) : (Option ((Bool × ((List Int) × (List Int))) × Unit)) :=
 (Option.bind (S.s_l01Gcd (x.2.1 , (x.2.2.1 , ()))) (fun (y0 : ((List Int) × Unit)) => (Option.bind (S.s_l01Cmp (y0.1 , (((1 : Int) :: ([] : List Int)) , ()))) (fun (y1 : (Int × Unit)) => (if ((y1.1 != (0 : Int)) = true) then (Option.bind (S.s_l01NatDiv (x.2.1 , (y0.1 , ()))) (fun (y2 : (((List Int) × (List Int)) × Unit)) => (Option.bind (S.s_l01NatDiv (x.2.2.1 , (y0.1 , ()))) (fun (y3 : (((List Int) × (List Int)) × Unit)) => (if (x.1 = true) then (some (((decide ((((List.length y2.1.1) : Nat) : Int) > (0 : Int))) , (y2.1.1 , y3.1.1)) , ()))
 else (some ((false , (y2.1.1 , y3.1.1)) , ())))))))
 else (if (x.1 = true) then (some (((decide ((((List.length x.2.1) : Nat) : Int) > (0 : Int))) , (x.2.1 , x.2.2.1)) , ()))
 else (some ((false , (x.2.1 , x.2.2.1)) , ()))))))))
def S.s_l01Make (x : (Bool × ((List Int) × ((List Int) × Unit)))) : (Option ((Bool × ((List Int) × (List Int))) × Unit)) := if canon B10 x.2.1 = true ∧ canon B10 x.2.2.1 = true ∧ x.2.2.1 ≠ [] ∧ x.2.1.length ≤ 10000000000 ∧ x.2.2.1.length ≤ 10000000000 then some (rp B10 (lowN x.1 (dval B10 x.2.1) (dval B10 x.2.2.1)), ()) else none
theorem S.s_l01Make_ok (x : (Bool × ((List Int) × ((List Int) × Unit)))) (r : _) (h : S.s_l01Make x = some r) : ∃ k, P.s_l01Make k x = some r := by
  obtain ⟨neg, as, bs', u⟩ := x
  unfold S.s_l01Make at h
  dsimp only at h
  split at h
  case isFalse => cases h
  rename_i hc
  obtain ⟨ca, cb, hne, la, lb⟩ := hc
  cases h
  refine ⟨0, ?_⟩
  unfold P.s_l01Make
  dsimp only
  have hb0 : dval B10 bs' ≠ 0 := fun e => hne ((canon_nil B10_le cb).2 e)
  have hg := gcd_len B10_le ca cb hb0
  have hgp : 0 < Nat.gcd (dval B10 as) (dval B10 bs') := Nat.gcd_pos_of_pos_right _ (by omega)
  have e1 : S.s_l01Gcd (as, (bs', ())) = some (nd B10 (Nat.gcd (dval B10 as) (dval B10 bs')), ()) := by
    unfold S.s_l01Gcd
    exact if_pos ⟨ca, cb, la, lb⟩
  rw [e1, Option.bind_some]
  dsimp only
  unfold lowN rp
  dsimp only
  have hgne : nd B10 (Nat.gcd (dval B10 as) (dval B10 bs')) ≠ [] := by
    rw [nd_pos B10_le (by omega)]
    simp
  have hgd : dval B10 (nd B10 (Nat.gcd (dval B10 as) (dval B10 bs'))) = Nat.gcd (dval B10 as) (dval B10 bs') := dval_nd B10_le _
  have hgc : canon B10 (nd B10 (Nat.gcd (dval B10 as) (dval B10 bs'))) = true := canon_nd B10_le _
  have e2 : ∀ xs, canon B10 xs = true → xs.length ≤ 10000000000 → S.s_l01NatDiv (xs, (nd B10 (Nat.gcd (dval B10 as) (dval B10 bs')), ())) = some ((nd B10 (dval B10 xs / Nat.gcd (dval B10 as) (dval B10 bs')), nd B10 (dval B10 xs % Nat.gcd (dval B10 as) (dval B10 bs'))), ()) := by
    intro xs cx lx
    unfold S.s_l01NatDiv
    dsimp only
    rw [if_pos ⟨cx, hgc, hgne, lx, by omega⟩, hgd]
  have e3 : S.s_l01Cmp (nd B10 (Nat.gcd (dval B10 as) (dval B10 bs')), ([1], ())) = some (cmpN (Nat.gcd (dval B10 as) (dval B10 bs')) 1, ()) := by
    unfold S.s_l01Cmp
    dsimp only
    rw [if_pos ⟨hgc, canon_one B10_le, by omega⟩, hgd, dval_one]
  rw [e3, Option.bind_some, e2 as ca la, Option.bind_some, e2 bs' cb lb, Option.bind_some]
  dsimp only
  have hpos : ∀ xs : List Int, canon B10 xs = true → (decide (((xs.length : Nat) : Int) > 0)) = decide (dval B10 xs ≠ 0) := by
    intro xs cx
    have := canon_nil B10_le cx
    rw [decide_eq_decide]
    constructor
    · intro h e
      rw [this.2 e] at h
      simp at h
    · intro h
      have : 0 < xs.length := List.length_pos_iff.2 (fun e => h (this.1 e))
      omega
  have hp2 : decide (dval B10 as / Nat.gcd (dval B10 as) (dval B10 bs') ≠ 0) = decide (dval B10 as ≠ 0) := by
    rw [decide_eq_decide]
    have hdv : Nat.gcd (dval B10 as) (dval B10 bs') ∣ dval B10 as := Nat.gcd_dvd_left _ _
    constructor
    · intro h e
      rw [e, Nat.zero_div] at h
      exact h rfl
    · intro h e
      have := Nat.div_pos (Nat.le_of_dvd (by omega) hdv) hgp
      omega
  rw [hpos _ (canon_nd B10_le _), hpos as ca, dval_nd B10_le, hp2]
  by_cases h1 : Nat.gcd (dval B10 as) (dval B10 bs') = 1
  · rw [if_neg (by simpa using cmpN_zero.2 h1), h1, Nat.div_one, Nat.div_one, canon_eq ca, canon_eq cb]
    cases neg <;> simp
  · rw [if_pos (by simpa using fun q => h1 (cmpN_zero.1 q))]
    cases neg <;> simp
def P.s_l01Sum (k : Nat) (x : ((Bool × ((List Int) × (List Int))) × ((Bool × ((List Int) × (List Int))) × Unit))) : (Option ((Bool × ((List Int) × (List Int))) × Unit)) :=
 (Option.bind (S.s_l01NatMul (x.1.2.1 , (x.2.1.2.2 , ()))) (fun (y0 : ((List Int) × Unit)) => (Option.bind (S.s_l01NatMul (x.2.1.2.1 , (x.1.2.2 , ()))) (fun (y1 : ((List Int) × Unit)) => (Option.bind (S.s_l01NatMul (x.1.2.2 , (x.2.1.2.2 , ()))) (fun (y2 : ((List Int) × Unit)) => (if ((x.1.1 == x.2.1.1) = true) then (Option.bind (S.s_l01NatAdd (y0.1 , (y1.1 , ()))) (fun (y3 : ((List Int) × Unit)) => (Option.bind (S.s_l01Make (x.1.1 , (y3.1 , (y2.1 , ())))) (fun (y4 : ((Bool × ((List Int) × (List Int))) × Unit)) => (some ((y4.1.1 , (y4.1.2.1 , y4.1.2.2)) , ()))))))
 else (Option.bind (S.s_l01Cmp (y0.1 , (y1.1 , ()))) (fun (y5 : (Int × Unit)) => (if ((decide (y5.1 ≥ (0 : Int))) = true) then (Option.bind (S.s_l01NatLess (y0.1 , (y1.1 , ()))) (fun (y6 : ((List Int) × Unit)) => (Option.bind (S.s_l01Make (x.1.1 , (y6.1 , (y2.1 , ())))) (fun (y7 : ((Bool × ((List Int) × (List Int))) × Unit)) => (some ((y7.1.1 , (y7.1.2.1 , y7.1.2.2)) , ()))))))
 else (Option.bind (S.s_l01NatLess (y1.1 , (y0.1 , ()))) (fun (y8 : ((List Int) × Unit)) => (Option.bind (S.s_l01Make (x.2.1.1 , (y8.1 , (y2.1 , ())))) (fun (y9 : ((Bool × ((List Int) × (List Int))) × Unit)) => (some ((y9.1.1 , (y9.1.2.1 , y9.1.2.2)) , ()))))))))))))))))
theorem sa_mul (p q : Nat) (hp : (nd B10 p).length ≤ 1000000) (hq : (nd B10 q).length ≤ 1000000) : S.s_l01NatMul (nd B10 p, (nd B10 q, ())) = some (nd B10 (p * q), ()) := by
  unfold S.s_l01NatMul
  dsimp only
  rw [if_pos ⟨dig_nd B10_le _, dig_nd B10_le _, by omega, by omega⟩, dval_nd B10_le, dval_nd B10_le]
theorem sa_add (p q : Nat) (hp : (nd B10 p).length ≤ 1000000) (hq : (nd B10 q).length ≤ 1000000) : S.s_l01NatAdd (nd B10 p, (nd B10 q, ())) = some (nd B10 (p + q), ()) := by
  unfold S.s_l01NatAdd
  dsimp only
  rw [if_pos ⟨canon_nd B10_le _, canon_nd B10_le _, by omega, by omega⟩, dval_nd B10_le, dval_nd B10_le]
theorem sa_sub (p q : Nat) (hp : (nd B10 p).length ≤ 1000000) (h : q ≤ p) : S.s_l01NatLess (nd B10 p, (nd B10 q, ())) = some (nd B10 (p - q), ()) := by
  unfold S.s_l01NatLess
  dsimp only
  rw [dval_nd B10_le, dval_nd B10_le, if_pos ⟨dig_nd B10_le _, dig_nd B10_le _, nd_shorter' B10_le h, h, by omega⟩]
theorem sa_cmp (p q : Nat) (hp : (nd B10 p).length ≤ 1000000) : S.s_l01Cmp (nd B10 p, (nd B10 q, ())) = some (cmpN p q, ()) := by
  unfold S.s_l01Cmp
  dsimp only
  rw [if_pos ⟨canon_nd B10_le _, canon_nd B10_le _, by omega⟩, dval_nd B10_le, dval_nd B10_le]
theorem sa_low (n : Bool) (p q : Nat) (hp : (nd B10 p).length ≤ 1000000) (hq : (nd B10 q).length ≤ 1000000) (h0 : q ≠ 0) : S.s_l01Make (n, (nd B10 p, (nd B10 q, ()))) = some (rp B10 (lowN n p q), ()) := by
  unfold S.s_l01Make
  dsimp only
  rw [if_pos ⟨canon_nd B10_le _, canon_nd B10_le _, nd_ne B10_le h0, by omega, by omega⟩, dval_nd B10_le, dval_nd B10_le]
def S.s_l01Sum (x : ((Bool × ((List Int) × (List Int))) × ((Bool × ((List Int) × (List Int))) × Unit))) : (Option ((Bool × ((List Int) × (List Int))) × Unit)) := if lowb B10 100000 x.1 = true ∧ lowb B10 100000 x.2.1 = true then some (rp B10 (addQ (rv B10 x.1) (rv B10 x.2.1)), ()) else none
theorem S.s_l01Sum_ok (x : ((Bool × ((List Int) × (List Int))) × ((Bool × ((List Int) × (List Int))) × Unit))) (r : _) (h : S.s_l01Sum x = some r) : ∃ k, P.s_l01Sum k x = some r := by
  obtain ⟨x, y, u⟩ := x
  unfold S.s_l01Sum at h
  dsimp only at h
  split at h
  case isFalse => cases h
  rename_i hc
  obtain ⟨hx, hy⟩ := hc
  cases h
  rw [lowb_iff] at hx hy
  obtain ⟨hx, lx⟩ := hx
  obtain ⟨hy, ly⟩ := hy
  obtain ⟨n1, p1, q1, rfl, x1, x2⟩ := rok_nd hx
  obtain ⟨n2, p2, q2, rfl, y1, y2⟩ := rok_nd hy
  rw [rv_nd B10_le] at lx ly ⊢
  rw [rv_nd B10_le]
  have hq1 : q1 ≠ 0 := by have : 0 < q1 := lx.1; omega
  have hq2 : q2 ≠ 0 := by have : 0 < q2 := ly.1; omega
  have m1 := nd_mul_len B10_le p1 q2
  have m2 := nd_mul_len B10_le p2 q1
  have m3 := nd_mul_len B10_le q1 q2
  have hq0 : q1 * q2 ≠ 0 := Nat.mul_ne_zero hq1 hq2
  refine ⟨0, ?_⟩
  unfold P.s_l01Sum
  dsimp only
  rw [sa_mul p1 q2 (by omega) (by omega), Option.bind_some, sa_mul p2 q1 (by omega) (by omega), Option.bind_some, sa_mul q1 q2 (by omega) (by omega), Option.bind_some]
  dsimp only
  unfold addQ
  dsimp only
  have a1 := nd_add_len B10_le (p1 * q2) (p2 * q1)
  have a2 := nd_sub_len B10_le (p1 * q2) (p2 * q1)
  have a3 := nd_sub_len B10_le (p2 * q1) (p1 * q2)
  by_cases hn : n1 = n2
  · rw [if_pos (by simpa using hn), if_pos hn, sa_add _ _ (by omega) (by omega), Option.bind_some, sa_low n1 _ _ (by omega) (by omega) hq0, Option.bind_some]
  · rw [if_neg (by simpa using hn), if_neg hn, sa_cmp _ _ (by omega), Option.bind_some]
    dsimp only
    have hlt := cmpN_lt (a := p1 * q2) (b := p2 * q1)
    by_cases hle : p2 * q1 ≤ p1 * q2
    · have hge : cmpN (p1 * q2) (p2 * q1) ≥ 0 := by
        rcases Int.lt_or_le (cmpN (p1 * q2) (p2 * q1)) 0 with g | g
        · have := hlt.1 g
          omega
        · exact g
      rw [if_pos (decide_eq_true hge), if_pos hle, sa_sub _ _ (by omega) hle, Option.bind_some, sa_low n1 _ _ (by omega) (by omega) hq0, Option.bind_some]
    · have hge : ¬ cmpN (p1 * q2) (p2 * q1) ≥ 0 := by
        have := hlt.2 (Nat.lt_of_not_le hle)
        omega
      rw [if_neg (by simpa using hge), if_neg hle, sa_sub _ _ (by omega) (Nat.le_of_lt (Nat.lt_of_not_le hle)), Option.bind_some, sa_low n2 _ _ (by omega) (by omega) hq0, Option.bind_some]
theorem rs_add {x y : Q3} {m n : Nat} (hx : low x) (bx : below m x) (hy : low y) (bY : below n y) (hm : m ≤ 800000) (hn : n ≤ 800000) : S.s_l01Sum (rp B10 x, (rp B10 y, ())) = some (rp B10 (addQ x y), ()) := by
  unfold S.s_l01Sum
  dsimp only
  rw [if_pos ⟨lowb_rp9 (by decide) hx bx (by omega), lowb_rp9 (by decide) hy bY (by omega)⟩, rv_rp B10_le, rv_rp B10_le]
def P.s_l01Times (k : Nat) (x : ((Bool × ((List Int) × (List Int))) × ((Bool × ((List Int) × (List Int))) × Unit))) : (Option ((Bool × ((List Int) × (List Int))) × Unit)) :=
 (Option.bind (S.s_l01NatMul (x.1.2.1 , (x.2.1.2.1 , ()))) (fun (y0 : ((List Int) × Unit)) => (Option.bind (S.s_l01NatMul (x.1.2.2 , (x.2.1.2.2 , ()))) (fun (y1 : ((List Int) × Unit)) => (Option.bind (S.s_l01Make ((!(x.1.1 == x.2.1.1)) , (y0.1 , (y1.1 , ())))) (fun (y2 : ((Bool × ((List Int) × (List Int))) × Unit)) => (some ((y2.1.1 , (y2.1.2.1 , y2.1.2.2)) , ()))))))))
def S.s_l01Times (x : ((Bool × ((List Int) × (List Int))) × ((Bool × ((List Int) × (List Int))) × Unit))) : (Option ((Bool × ((List Int) × (List Int))) × Unit)) := if lowb B10 100000 x.1 = true ∧ lowb B10 100000 x.2.1 = true  then some (rp B10 (mulQ (rv B10 x.1) (rv B10 x.2.1)), ()) else none
theorem S.s_l01Times_ok (x : ((Bool × ((List Int) × (List Int))) × ((Bool × ((List Int) × (List Int))) × Unit))) (r : _) (h : S.s_l01Times x = some r) : ∃ k, P.s_l01Times k x = some r := by
  obtain ⟨x, y, u⟩ := x
  unfold S.s_l01Times at h
  dsimp only at h
  split at h
  case isFalse => cases h
  rename_i hc
  obtain ⟨hx, hy⟩ := hc
  cases h
  rw [lowb_iff] at hx hy
  obtain ⟨hx, lx⟩ := hx
  obtain ⟨hy, ly⟩ := hy
  obtain ⟨n1, p1, q1, rfl, x1, x2⟩ := rok_nd hx
  obtain ⟨n2, p2, q2, rfl, y1, y2⟩ := rok_nd hy
  rw [rv_nd B10_le] at lx ly ⊢
  rw [rv_nd B10_le]
  have hq1 : 0 < q1 := lx.1
  have hq2 : 0 < q2 := ly.1
  have m1 := nd_mul_len B10_le p1 p2
  have m2 := nd_mul_len B10_le q1 q2
  have mul : ∀ p q : Nat, (nd B10 p).length ≤ 1000000 → (nd B10 q).length ≤ 1000000 → S.s_l01NatMul (nd B10 p, (nd B10 q, ())) = some (nd B10 (p * q), ()) := by
    intro p q hp hq
    unfold S.s_l01NatMul
    dsimp only
    rw [if_pos ⟨dig_nd B10_le _, dig_nd B10_le _, by omega, by omega⟩, dval_nd B10_le, dval_nd B10_le]
  refine ⟨0, ?_⟩
  unfold P.s_l01Times mulQ
  dsimp only
  rw [mul p1 p2 (by omega) (by omega), Option.bind_some, mul q1 q2 (by omega) (by omega), Option.bind_some]
  unfold S.s_l01Make
  dsimp only
  rw [if_pos ⟨canon_nd B10_le _, canon_nd B10_le _, nd_ne B10_le (Nat.ne_of_gt (Nat.mul_pos hq1 hq2)), by omega, by omega⟩, Option.bind_some, dval_nd B10_le, dval_nd B10_le]
  rfl
theorem rs_mul {x y : Q3} {m n : Nat} (hx : low x) (bx : below m x) (hy : low y) (bY : below n y) (hm : m ≤ 800000) (hn : n ≤ 800000) : S.s_l01Times (rp B10 x, (rp B10 y, ())) = some (rp B10 (mulQ x y), ()) := by
  unfold S.s_l01Times
  dsimp only
  rw [if_pos ⟨lowb_rp9 (by decide) hx bx (by omega), lowb_rp9 (by decide) hy bY (by omega)⟩, rv_rp B10_le, rv_rp B10_le]
def P.s_l01Over (k : Nat) (x : ((Bool × ((List Int) × (List Int))) × ((Bool × ((List Int) × (List Int))) × Unit))) : (Option ((Bool × ((List Int) × (List Int))) × Unit)) :=
 (Option.bind (S.s_l01NatMul (x.1.2.1 , (x.2.1.2.2 , ()))) (fun (y0 : ((List Int) × Unit)) => (Option.bind (S.s_l01NatMul (x.1.2.2 , (x.2.1.2.1 , ()))) (fun (y1 : ((List Int) × Unit)) => (Option.bind (S.s_l01Make ((!(x.1.1 == x.2.1.1)) , (y0.1 , (y1.1 , ())))) (fun (y2 : ((Bool × ((List Int) × (List Int))) × Unit)) => (some ((y2.1.1 , (y2.1.2.1 , y2.1.2.2)) , ()))))))))
def S.s_l01Over (x : ((Bool × ((List Int) × (List Int))) × ((Bool × ((List Int) × (List Int))) × Unit))) : (Option ((Bool × ((List Int) × (List Int))) × Unit)) := if lowb B10 100000 x.1 = true ∧ lowb B10 100000 x.2.1 = true ∧ (rv B10 x.2.1).2.1 ≠ 0 then some (rp B10 (overQ (rv B10 x.1) (rv B10 x.2.1)), ()) else none
theorem S.s_l01Over_ok (x : ((Bool × ((List Int) × (List Int))) × ((Bool × ((List Int) × (List Int))) × Unit))) (r : _) (h : S.s_l01Over x = some r) : ∃ k, P.s_l01Over k x = some r := by
  obtain ⟨x, y, u⟩ := x
  unfold S.s_l01Over at h
  dsimp only at h
  split at h
  case isFalse => cases h
  rename_i hc
  obtain ⟨hx, hy, h0⟩ := hc
  cases h
  rw [lowb_iff] at hx hy
  obtain ⟨hx, lx⟩ := hx
  obtain ⟨hy, ly⟩ := hy
  obtain ⟨n1, p1, q1, rfl, x1, x2⟩ := rok_nd hx
  obtain ⟨n2, p2, q2, rfl, y1, y2⟩ := rok_nd hy
  rw [rv_nd B10_le] at lx ly h0 ⊢
  rw [rv_nd B10_le]
  have hq1 : 0 < q1 := lx.1
  have hq2 : 0 < p2 := Nat.pos_of_ne_zero h0
  have m1 := nd_mul_len B10_le p1 q2
  have m2 := nd_mul_len B10_le q1 p2
  have mul : ∀ p q : Nat, (nd B10 p).length ≤ 1000000 → (nd B10 q).length ≤ 1000000 → S.s_l01NatMul (nd B10 p, (nd B10 q, ())) = some (nd B10 (p * q), ()) := by
    intro p q hp hq
    unfold S.s_l01NatMul
    dsimp only
    rw [if_pos ⟨dig_nd B10_le _, dig_nd B10_le _, by omega, by omega⟩, dval_nd B10_le, dval_nd B10_le]
  refine ⟨0, ?_⟩
  unfold P.s_l01Over overQ
  dsimp only
  rw [mul p1 q2 (by omega) (by omega), Option.bind_some, mul q1 p2 (by omega) (by omega), Option.bind_some]
  unfold S.s_l01Make
  dsimp only
  rw [if_pos ⟨canon_nd B10_le _, canon_nd B10_le _, nd_ne B10_le (Nat.ne_of_gt (Nat.mul_pos hq1 hq2)), by omega, by omega⟩, Option.bind_some, dval_nd B10_le, dval_nd B10_le]
  rfl
theorem rs_over {x y : Q3} {m n : Nat} (hx : low x) (bx : below m x) (hy : low y) (bY : below n y) (h0 : y.2.1 ≠ 0) (hm : m ≤ 800000) (hn : n ≤ 800000) : S.s_l01Over (rp B10 x, (rp B10 y, ())) = some (rp B10 (overQ x y), ()) := by
  unfold S.s_l01Over
  dsimp only
  rw [if_pos ⟨lowb_rp9 (by decide) hx bx (by omega), lowb_rp9 (by decide) hy bY (by omega), by rw [rv_rp B10_le]; exact h0⟩, rv_rp B10_le, rv_rp B10_le]
abbrev P.s_l02UpTimes_b0  (x1 : (Int × (((List (Bool × ((List Int) × (List Int)))) × (List (Bool × ((List Int) × (List Int))))) × ((List (Bool × ((List Int) × (List Int)))) × Unit)))) (g2 : (Int × (((List (Bool × ((List Int) × (List Int)))) × (List (Bool × ((List Int) × (List Int))))) × ((List (Bool × ((List Int) × (List Int)))) × Unit))) → Option ((List (Bool × ((List Int) × (List Int)))) × Unit)) : Option ((List (Bool × ((List Int) × (List Int)))) × Unit) :=
 (if ((decide (x1.1 < (((List.length x1.2.1.1) : Nat) : Int))) = true) then (Option.bind (S.s_l01One ()) (fun (y3 : ((Bool × ((List Int) × (List Int))) × Unit)) => (if ((decide (x1.1 > (0 : Int))) = true) then (if ((decide ((0 : Int) ≤ (Go.IntKind.wrap Go.IntKind.i64 (x1.1 - (1 : Int))))) = true) then (if ((decide ((Go.IntKind.wrap Go.IntKind.i64 (x1.1 - (1 : Int))) < (((List.length x1.2.1.2) : Nat) : Int))) = true) then (if ((decide ((0 : Int) ≤ (Go.IntKind.wrap Go.IntKind.i64 (x1.1 - (1 : Int))))) = true) then (if ((decide ((Go.IntKind.wrap Go.IntKind.i64 (x1.1 - (1 : Int))) < (((List.length x1.2.2.1) : Nat) : Int))) = true) then (Option.bind (S.s_l01Times (((List.getD x1.2.1.2 (Int.toNat (Go.IntKind.wrap Go.IntKind.i64 (x1.1 - (1 : Int)))) (false , (([] : List Int) , ([] : List Int)))).1 , ((List.getD x1.2.1.2 (Int.toNat (Go.IntKind.wrap Go.IntKind.i64 (x1.1 - (1 : Int)))) (false , (([] : List Int) , ([] : List Int)))).2.1 , (List.getD x1.2.1.2 (Int.toNat (Go.IntKind.wrap Go.IntKind.i64 (x1.1 - (1 : Int)))) (false , (([] : List Int) , ([] : List Int)))).2.2)) , (((List.getD x1.2.2.1 ((0 : Nat) + (Int.toNat (Go.IntKind.wrap Go.IntKind.i64 (x1.1 - (1 : Int))))) (false , (([] : List Int) , ([] : List Int)))).1 , ((List.getD x1.2.2.1 ((0 : Nat) + (Int.toNat (Go.IntKind.wrap Go.IntKind.i64 (x1.1 - (1 : Int))))) (false , (([] : List Int) , ([] : List Int)))).2.1 , (List.getD x1.2.2.1 ((0 : Nat) + (Int.toNat (Go.IntKind.wrap Go.IntKind.i64 (x1.1 - (1 : Int))))) (false , (([] : List Int) , ([] : List Int)))).2.2)) , ()))) (fun (y4 : ((Bool × ((List Int) × (List Int))) × Unit)) => (Option.bind (S.s_l01Sum ((y3.1.1 , (y3.1.2.1 , y3.1.2.2)) , ((y4.1.1 , (y4.1.2.1 , y4.1.2.2)) , ()))) (fun (y5 : ((Bool × ((List Int) × (List Int))) × Unit)) => (if ((decide ((0 : Int) ≤ x1.1)) = true) then (if ((decide (x1.1 < (((List.length x1.2.1.1) : Nat) : Int))) = true) then (Option.bind (S.s_l01Over ((y5.1.1 , (y5.1.2.1 , y5.1.2.2)) , (((List.getD x1.2.1.1 (Int.toNat x1.1) (false , (([] : List Int) , ([] : List Int)))).1 , ((List.getD x1.2.1.1 (Int.toNat x1.1) (false , (([] : List Int) , ([] : List Int)))).2.1 , (List.getD x1.2.1.1 (Int.toNat x1.1) (false , (([] : List Int) , ([] : List Int)))).2.2)) , ()))) (fun (y6 : ((Bool × ((List Int) × (List Int))) × Unit)) => (if ((decide ((((List.length x1.2.2.1) + (List.length ((y6.1.1 , (y6.1.2.1 , y6.1.2.2)) :: ([] : List (Bool × ((List Int) × (List Int))))))) * (56 : Nat)) ≤ (140737488355328 : Nat))) = true) then (g2 ((Go.IntKind.wrap Go.IntKind.i64 (x1.1 + (1 : Int))) , (x1.2.1 , ((x1.2.2.1 ++ ((y6.1.1 , (y6.1.2.1 , y6.1.2.2)) :: ([] : List (Bool × ((List Int) × (List Int)))))) , ()))))
 else none)))
 else none)
 else none)))))
 else none)
 else none)
 else none)
 else none)
 else (if ((decide ((0 : Int) ≤ x1.1)) = true) then (if ((decide (x1.1 < (((List.length x1.2.1.1) : Nat) : Int))) = true) then (Option.bind (S.s_l01Over ((y3.1.1 , (y3.1.2.1 , y3.1.2.2)) , (((List.getD x1.2.1.1 (Int.toNat x1.1) (false , (([] : List Int) , ([] : List Int)))).1 , ((List.getD x1.2.1.1 (Int.toNat x1.1) (false , (([] : List Int) , ([] : List Int)))).2.1 , (List.getD x1.2.1.1 (Int.toNat x1.1) (false , (([] : List Int) , ([] : List Int)))).2.2)) , ()))) (fun (y7 : ((Bool × ((List Int) × (List Int))) × Unit)) => (if ((decide ((((List.length x1.2.2.1) + (List.length ((y7.1.1 , (y7.1.2.1 , y7.1.2.2)) :: ([] : List (Bool × ((List Int) × (List Int))))))) * (56 : Nat)) ≤ (140737488355328 : Nat))) = true) then (g2 ((Go.IntKind.wrap Go.IntKind.i64 (x1.1 + (1 : Int))) , (x1.2.1 , ((x1.2.2.1 ++ ((y7.1.1 , (y7.1.2.1 , y7.1.2.2)) :: ([] : List (Bool × ((List Int) × (List Int)))))) , ()))))
 else none)))
 else none)
 else none))))
 else (some (x1.2.2.1 , ())))
def P.s_l02UpTimes (k : Nat) (x : (((List (Bool × ((List Int) × (List Int)))) × (List (Bool × ((List Int) × (List Int))))) × Unit)) : (Option ((List (Bool × ((List Int) × (List Int)))) × Unit)) :=
 (loopP (X := (Int × (((List (Bool × ((List Int) × (List Int)))) × (List (Bool × ((List Int) × (List Int))))) × ((List (Bool × ((List Int) × (List Int)))) × Unit)))) (R := ((List (Bool × ((List Int) × (List Int)))) × Unit)) (P.s_l02UpTimes_b0 ) k ((0 : Int) , (x.1 , (([] : List (Bool × ((List Int) × (List Int)))) , ()))))
open Classical in
def S.s_l02UpTimes (x : (((List (Bool × ((List Int) × (List Int)))) × (List (Bool × ((List Int) × (List Int))))) × Unit)) : (Option ((List (Bool × ((List Int) × (List Int)))) × Unit)) := if isLine B10 x.1 then some ((upL (x.1.1.map (rv B10)) (x.1.2.map (rv B10))).map (rp B10), ()) else none
theorem S.s_l02UpTimes_ok (x : (((List (Bool × ((List Int) × (List Int)))) × (List (Bool × ((List Int) × (List Int))))) × Unit)) (r : _) (h : S.s_l02UpTimes x = some r) : ∃ k, P.s_l02UpTimes k x = some r := by
  obtain ⟨y, u⟩ := x
  unfold S.s_l02UpTimes at h
  dsimp only at h
  split at h
  case isFalse => cases h
  rename_i hc
  cases h
  obtain ⟨us, ds, rfl, hu, hd, hl, h20⟩ := hc
  obtain ⟨N, hN⟩ : ∃ N, us.length = N := ⟨_, rfl⟩
  refine ⟨N + 1, ?_⟩
  have h1 : S.s_l01One () = some (rp B10 oneQ, ()) := by rfl
  unfold P.s_l02UpTimes upL
  dsimp only
  rw [map_rv B10_le, map_rv B10_le, hN]
  have key := loop_up0 (k := N + 1) (b := P.s_l02UpTimes_b0) (n := N) (st := fun i => ((i : Int), (us.map (rp B10), ds.map (rp B10)), ((List.range i).map (upF us ds)).map (rp B10), ())) (F := fun i => some (((List.range N).map (upF us ds)).map (rp B10), ())) (fun i g hi hg' => by
    have e1 : (i : Int) < (N : Int) := by omega
    have e2 : (0 : Int) ≤ (i : Int) := by omega
    have e3 : (i : Int) < ((us.map (rp B10)).length : Int) := by rw [List.length_map]; omega
    have e4 : ((((List.range i).map (upF us ds)).map (rp B10)).length + 1) * 56 ≤ 140737488355328 := by
      simp only [List.length_map, List.length_range]
      omega
    have gu := rates_get hu (show i < us.length by omega)
    unfold P.s_l02UpTimes_b0
    dsimp only at hg' ⊢
    rw [if_pos (decide_eq_true e3), h1, Option.bind_some]
    dsimp only
    simp only [List.length_cons, List.length_nil, Nat.zero_add]
    cases i with
    | zero =>
      rw [if_neg (by simp), if_pos (decide_eq_true e2), if_pos (decide_eq_true e3), Int.toNat_natCast, getD_rp B10 (show 0 < us.length by omega)]
      show Option.bind (S.s_l01Over (rp B10 oneQ, (rp B10 (us.getD 0 zeroQ), ()))) _ = _
      rw [rs_over oneQ_low (oneQ_below (n := 1) (by decide)) gu.1 gu.2.1 gu.2.2.1 (by decide) (by decide), Option.bind_some]
      dsimp only
      rw [if_pos (decide_eq_true e4), wr (by omega) (by omega), ← hg', range_snoc, List.map_append]
      rfl
    | succ j =>
      have ej : ((j + 1 : Nat) : Int) > 0 := by omega
      have f1 : (0 : Int) ≤ (j : Int) := by omega
      have f2 : (j : Int) < ((ds.map (rp B10)).length : Int) := by rw [List.length_map]; omega
      have f3 : (j : Int) < ((((List.range (j + 1)).map (upF us ds)).map (rp B10)).length : Int) := by
        simp only [List.length_map, List.length_range]
        omega
      have gd := rates_get hd (show j < ds.length by omega)
      have gt := upF_ok hu hd j (by omega) (by omega)
      have l1 := mulQ_low _ _ gd.1 gt.1
      have b1 := mulQ_below gd.2.1 gt.2
      have l2 := addQ_low _ _ oneQ_low l1
      have b2 := addQ_below (oneQ_below (n := 1) (by decide)) b1
      rw [if_pos (decide_eq_true ej), wr (x := ((j + 1 : Nat) : Int) - 1) (by omega) (by omega), show ((j + 1 : Nat) : Int) - 1 = (j : Int) by omega, if_pos (decide_eq_true f1), if_pos (decide_eq_true f2), if_pos (decide_eq_true f1), if_pos (decide_eq_true f3), Int.toNat_natCast, getD_rp B10 (show j < ds.length by omega), getD_rpR B10 (show j < j + 1 by omega)]
      show Option.bind (S.s_l01Times (rp B10 (ds.getD j zeroQ), (rp B10 (upF us ds j), ()))) _ = _
      rw [rs_mul gd.1 gd.2.1 gt.1 gt.2 (by decide) (by omega), Option.bind_some]
      show Option.bind (S.s_l01Sum (rp B10 oneQ, (rp B10 (mulQ (ds.getD j zeroQ) (upF us ds j)), ()))) _ = _
      rw [rs_add oneQ_low (oneQ_below (n := 1) (by decide)) l1 b1 (by decide) (by omega), Option.bind_some]
      dsimp only
      rw [if_pos (decide_eq_true e2), if_pos (decide_eq_true e3), Int.toNat_natCast, getD_rp B10 (show j + 1 < us.length by omega)]
      show Option.bind (S.s_l01Over (rp B10 (addQ oneQ (mulQ (ds.getD j zeroQ) (upF us ds j))), (rp B10 (us.getD (j + 1) zeroQ), ()))) _ = _
      rw [rs_over l2 b2 gu.1 gu.2.1 gu.2.2.1 (by omega) (by decide), Option.bind_some]
      dsimp only
      rw [if_pos (decide_eq_true e4), wr (by omega) (by omega), ← hg', range_snoc _ (j + 1), List.map_append]
      rfl) (fun g => by
    unfold P.s_l02UpTimes_b0
    dsimp only
    rw [if_neg (by simp only [List.length_map, decide_eq_true_eq]; omega)]) (by omega)
  exact key
def P.s_UpTimes (k : Nat) (x : (((List ByteArray) × (List ByteArray)) × Unit)) : (Option (((List ByteArray) × Bool) × Unit)) :=
 (Option.bind (S.s_l02Parse ((x.1.1 , x.1.2) , ())) (fun (y0 : ((((List (Bool × ((List Int) × (List Int)))) × (List (Bool × ((List Int) × (List Int))))) × Bool) × Unit)) => (if ((!y0.1.2) = true) then (some ((([] : List ByteArray) , false) , ()))
 else (Option.bind (S.s_l02UpTimes ((y0.1.1.1 , y0.1.1.2) , ())) (fun (y1 : ((List (Bool × ((List Int) × (List Int)))) × Unit)) => (Option.bind (S.s_l02GiveAll (y1.1 , ())) (fun (y2 : (((List ByteArray) × Bool) × Unit)) => (some ((y2.1.1 , y2.1.2) , ())))))))))
def S.s_UpTimes (x : (((List ByteArray) × (List ByteArray)) × Unit)) : (Option (((List ByteArray) × Bool) × Unit)) := P.s_UpTimes 0 x
theorem S.s_UpTimes_ok (x : (((List ByteArray) × (List ByteArray)) × Unit)) (r : _) (h : S.s_UpTimes x = some r) : ∃ k, P.s_UpTimes k x = some r := ⟨0, h⟩
def S.strconv_FormatUint (x : (Int × (Int × Unit))) : (Option (ByteArray × Unit)) := if x.2.1 = 10 ∧ 0 ≤ x.1 ∧ x.1 < 18446744073709551616 then some (⟨(Go.Lib.decDigits x.1.toNat).toArray⟩, ()) else none
/-- The length of what is joined. -/
def joinB (xs : List ByteArray) (sep : ByteArray) : List UInt8 := Go.Lib.join (xs.map (·.data.toList)) sep.data.toList
def S.strings_Join (x : ((List ByteArray) × (ByteArray × Unit))) : (Option (ByteArray × Unit)) := if x.1.length ≤ 140737488355328 ∧ (joinB x.1 x.2.1).length ≤ 140737488355328 then some (⟨(joinB x.1 x.2.1).toArray⟩, ()) else none
def S.strings_Repeat (x : (ByteArray × (Int × Unit))) : (Option (ByteArray × Unit)) := if 0 ≤ x.2.1 ∧ x.2.1 ≤ 1000000 ∧ x.1.size ≤ 1000000 then some (⟨(Go.Lib.repeatL x.1.data.toList x.2.1.toNat).toArray⟩, ()) else none
abbrev P.slices_Reverse__string_string_b0  (x1 : (Int × (Int × ((List ByteArray) × Unit)))) (g2 : (Int × (Int × ((List ByteArray) × Unit))) → Option (Unit × ((List ByteArray) × Unit))) : Option (Unit × ((List ByteArray) × Unit)) :=
 (if ((decide (x1.1 < x1.2.1)) = true) then (if ((decide ((0 : Int) ≤ x1.2.1)) = true) then (if ((decide (x1.2.1 < (((List.length x1.2.2.1) : Nat) : Int))) = true) then (if ((decide ((0 : Int) ≤ x1.1)) = true) then (if ((decide (x1.1 < (((List.length x1.2.2.1) : Nat) : Int))) = true) then (if ((decide ((0 : Int) ≤ x1.1)) = true) then (if ((decide (x1.1 < (((List.length x1.2.2.1) : Nat) : Int))) = true) then (if ((decide ((0 : Int) ≤ x1.2.1)) = true) then (if ((decide (x1.2.1 < (((List.length (List.set x1.2.2.1 ((0 : Nat) + (Int.toNat x1.1)) (List.getD x1.2.2.1 ((0 : Nat) + (Int.toNat x1.2.1)) (bs [])))) : Nat) : Int))) = true) then (g2 ((Go.IntKind.wrap Go.IntKind.i64 (x1.1 + (1 : Int))) , ((Go.IntKind.wrap Go.IntKind.i64 (x1.2.1 - (1 : Int))) , ((List.set (List.set x1.2.2.1 ((0 : Nat) + (Int.toNat x1.1)) (List.getD x1.2.2.1 ((0 : Nat) + (Int.toNat x1.2.1)) (bs []))) ((0 : Nat) + (Int.toNat x1.2.1)) (List.getD x1.2.2.1 ((0 : Nat) + (Int.toNat x1.1)) (bs []))) , ()))))
 else none)
 else none)
 else none)
 else none)
 else none)
 else none)
 else none)
 else none)
 else (some (() , (x1.2.2.1 , ()))))
def P.slices_Reverse__string_string (k : Nat) (x : ((List ByteArray) × Unit)) : (Option (Unit × ((List ByteArray) × Unit))) :=
 (loopP (X := (Int × (Int × ((List ByteArray) × Unit)))) (R := (Unit × ((List ByteArray) × Unit))) (P.slices_Reverse__string_string_b0 ) k ((0 : Int) , ((Go.IntKind.wrap Go.IntKind.i64 ((((List.length x.1) : Nat) : Int) - (1 : Int))) , (x.1 , ()))))
/-- A list whose first and last t places are turned. -/
def rvd (xs : List ByteArray) (t : Nat) : List ByteArray := (List.range xs.length).map fun p => if p < t ∨ xs.length - t ≤ p then xs.getD (xs.length - 1 - p) (bs []) else xs.getD p (bs [])
theorem rvd_len (xs : List ByteArray) (t : Nat) : (rvd xs t).length = xs.length := by simp [rvd]
theorem rvd_get (xs : List ByteArray) (t p : Nat) (h : p < xs.length) : (rvd xs t).getD p (bs []) = if p < t ∨ xs.length - t ≤ p then xs.getD (xs.length - 1 - p) (bs []) else xs.getD p (bs []) := by
  unfold rvd
  rw [List.getD_eq_getElem?_getD, List.getElem?_map, List.getElem?_range h]
  rfl
theorem getD_ext {xs ys : List ByteArray} (hl : xs.length = ys.length) (h : ∀ p, p < xs.length → xs.getD p (bs []) = ys.getD p (bs [])) : xs = ys := by
  apply List.ext_getElem hl
  intro i h1 h2
  have := h i h1
  simpa [h1, h2] using this
theorem rvd_end (xs : List ByteArray) : rvd xs (xs.length / 2) = xs.reverse := by
  apply getD_ext (by rw [rvd_len, List.length_reverse])
  intro p hp
  rw [rvd_len] at hp
  rw [rvd_get _ _ _ hp]
  have e : xs.reverse.getD p (bs []) = xs.getD (xs.length - 1 - p) (bs []) := by
    rw [List.getD_eq_getElem?_getD, List.getElem?_reverse hp, ← List.getD_eq_getElem?_getD]
  rw [e]
  split
  · rfl
  · rename_i hq
    have : xs.length - 1 - p = p := by omega
    rw [this]
theorem getD_set' (l : List ByteArray) (i p : Nat) (v : ByteArray) (h : p < l.length) : (l.set i v).getD p (bs []) = if p = i then v else l.getD p (bs []) := by
  rw [List.getD_eq_getElem?_getD, List.getElem?_set]
  by_cases e : i = p
  · subst e
    simp [h]
  · rw [if_neg e, if_neg (fun q => e q.symm), ← List.getD_eq_getElem?_getD]
theorem rvd_step (xs : List ByteArray) (t : Nat) (ht : t < xs.length / 2) : ((rvd xs t).set t ((rvd xs t).getD (xs.length - 1 - t) (bs []))).set (xs.length - 1 - t) ((rvd xs t).getD t (bs [])) = rvd xs (t + 1) := by
  apply getD_ext (by simp [rvd_len])
  intro p hp
  simp only [List.length_set, rvd_len] at hp
  rw [getD_set' _ _ _ _ (by simp [rvd_len]; exact hp), getD_set' _ _ _ _ (by rw [rvd_len]; exact hp), rvd_get _ _ _ hp, rvd_get _ _ _ hp, rvd_get _ _ _ (show t < xs.length by omega), rvd_get _ _ _ (show xs.length - 1 - t < xs.length by omega)]
  rw [if_neg (show ¬ (t < t ∨ xs.length - t ≤ t) by omega), if_neg (show ¬ (xs.length - 1 - t < t ∨ xs.length - t ≤ xs.length - 1 - t) by omega)]
  by_cases h1 : p = xs.length - 1 - t
  · rw [if_pos h1, if_pos (by omega)]
    congr 1
    omega
  · rw [if_neg h1]
    by_cases h2 : p = t
    · rw [if_pos h2, if_pos (by omega)]
      congr 1
      omega
    · rw [if_neg h2]
      by_cases h3 : p < t ∨ xs.length - t ≤ p
      · rw [if_pos h3, if_pos (by omega)]
      · rw [if_neg h3, if_neg (by omega)]
def S.slices_Reverse__string_string (x : ((List ByteArray) × Unit)) : (Option (Unit × ((List ByteArray) × Unit))) := if x.1.length ≤ 1000000000 then some ((), (x.1.reverse, ())) else none
theorem S.slices_Reverse__string_string_ok (x : ((List ByteArray) × Unit)) (r : _) (h : S.slices_Reverse__string_string x = some r) : ∃ k, P.slices_Reverse__string_string k x = some r := by
  obtain ⟨xs, u⟩ := x
  unfold S.slices_Reverse__string_string at h
  dsimp only at h
  split at h
  case isFalse => cases h
  rename_i hl
  cases h
  refine ⟨xs.length / 2 + 1, ?_⟩
  unfold P.slices_Reverse__string_string
  dsimp only
  rw [wr (by omega) (by omega)]
  have key := loop_up0 (k := xs.length / 2 + 1) (b := P.slices_Reverse__string_string_b0) (n := xs.length / 2) (st := fun t => ((t : Int), (xs.length : Int) - 1 - (t : Int), rvd xs t, ())) (F := fun t => some ((), (xs.reverse, ()))) (fun t g ht hg => by
    unfold P.slices_Reverse__string_string_b0
    dsimp only at hg ⊢
    have e5 : (xs.length : Int) - 1 - (t : Int) = ((xs.length - 1 - t : Nat) : Int) := by omega
    rw [e5]
    have e1 : (t : Int) < ((xs.length - 1 - t : Nat) : Int) := by omega
    have e2 : (0 : Int) ≤ ((xs.length - 1 - t : Nat) : Int) := by omega
    have e3 : ((xs.length - 1 - t : Nat) : Int) < (xs.length : Int) := by omega
    have e4 : (0 : Int) ≤ (t : Int) := by omega
    have e6 : (t : Int) < (xs.length : Int) := by omega
    simp only [rvd_len, List.length_set, e1, e2, e3, e4, e6, decide_true, if_true, Int.toNat_natCast, Nat.zero_add]
    rw [rvd_step xs t ht, wr (by omega) (by omega), wr (by omega) (by omega), ← hg]
    congr 1
    all_goals (simp only [Prod.mk.injEq]; and_intros <;> first | rfl | omega | trivial)) (fun g => by
    unfold P.slices_Reverse__string_string_b0
    dsimp only
    rw [if_neg (by simp; omega), rvd_end]) (by omega)
  have e0 : rvd xs 0 = xs := by
    apply getD_ext (rvd_len _ _)
    intro p hp
    rw [rvd_len] at hp
    rw [rvd_get _ _ _ hp, if_neg (by omega)]
  rw [show (xs.length : Int) - 1 - ((0 : Nat) : Int) = (xs.length : Int) - 1 by omega, e0] at key
  exact key
abbrev P.i_nat_trim_b0  (x1 : ((List Int) × Unit)) (g2 : ((List Int) × Unit) → Option ((List Int) × Unit)) : Option ((List Int) × Unit) :=
 (if ((decide ((((List.length x1.1) : Nat) : Int) > (0 : Int))) = true) then (if ((decide ((0 : Int) ≤ (Go.IntKind.wrap Go.IntKind.i64 ((((List.length x1.1) : Nat) : Int) - (1 : Int))))) = true) then (if ((decide ((Go.IntKind.wrap Go.IntKind.i64 ((((List.length x1.1) : Nat) : Int) - (1 : Int))) < (((List.length x1.1) : Nat) : Int))) = true) then (if (((List.getD x1.1 (Int.toNat (Go.IntKind.wrap Go.IntKind.i64 ((((List.length x1.1) : Nat) : Int) - (1 : Int)))) (0 : Int)) == (0 : Int)) = true) then (if ((decide ((0 : Int) ≤ (Go.IntKind.wrap Go.IntKind.i64 ((((List.length x1.1) : Nat) : Int) - (1 : Int))))) = true) then (if ((decide ((Go.IntKind.wrap Go.IntKind.i64 ((((List.length x1.1) : Nat) : Int) - (1 : Int))) ≤ (((List.length x1.1) : Nat) : Int))) = true) then (if ((decide ((0 : Int) ≤ (Go.IntKind.wrap Go.IntKind.i64 ((((List.length x1.1) : Nat) : Int) - (1 : Int))))) = true) then (g2 ((seen x1.1 (0 : Nat) ((Int.toNat (Go.IntKind.wrap Go.IntKind.i64 ((((List.length x1.1) : Nat) : Int) - (1 : Int)))) - (0 : Nat))) , ()))
 else none)
 else none)
 else none)
 else (some (x1.1 , ())))
 else none)
 else none)
 else (some (x1.1 , ())))
def P.i_nat_trim (k : Nat) (x : ((List Int) × Unit)) : (Option ((List Int) × Unit)) :=
 (loopP (X := ((List Int) × Unit)) (R := ((List Int) × Unit)) (P.i_nat_trim_b0 ) k (x.1 , ()))
theorem trim_loop (n : Nat) : ∀ (xs : List Int) (k : Nat), xs.length = n → n < k → n ≤ 1000000000000 → dig B32 xs = true → loopP (X := ((List Int) × Unit)) (R := ((List Int) × Unit)) P.i_nat_trim_b0 k (xs, ()) = some (nd B32 (dval B32 xs), ()) := by
  induction n with
  | zero =>
    intro xs k hx hk _ _
    have : xs = [] := List.eq_nil_of_length_eq_zero hx
    subst this
    obtain ⟨k, rfl⟩ : ∃ j, k = j + 1 := ⟨k - 1, by omega⟩
    rw [loopP_succ]
    unfold P.i_nat_trim_b0
    rw [if_neg (by simp)]
    rw [show dval B32 [] = 0 from rfl, nd_zero B32_le]
  | succ n ih =>
    intro xs k hx hk hn hd
    obtain ⟨k, rfl⟩ : ∃ j, k = j + 1 := ⟨k - 1, by omega⟩
    rw [loopP_succ]
    unfold P.i_nat_trim_b0
    dsimp only
    have e0 : Go.IntKind.wrap Go.IntKind.i64 ((xs.length : Int) - 1) = (n : Int) := by rw [wr (by omega) (by omega)]; omega
    have e1 : (xs.length : Int) > 0 := by omega
    have e2 : (0 : Int) ≤ (n : Int) := by omega
    have e3 : (n : Int) < (xs.length : Int) := by omega
    have e4 : (n : Int) ≤ (xs.length : Int) := by omega
    rw [e0]
    simp only [e1, e2, e3, e4, decide_true, if_true]
    rw [getD_cast xs n _ (by omega)]
    have hs := take_snoc xs n hx
    have hdt : dig B32 (xs.take n ++ [xs[n]]) = true := by rw [← hs]; exact hd
    by_cases hz : xs[n] = 0
    · rw [if_pos (by simp [hz])]
      have e5 : seen xs 0 ((n : Int).toNat - 0) = xs.take n := by simp [seen]
      rw [e5]
      have hdt' := hdt
      rw [dig_append, Bool.and_eq_true] at hdt'
      rw [ih (xs.take n) k (by simp; omega) (by omega) (by omega) hdt'.1]
      have : dval B32 xs = dval B32 (xs.take n) := by
        conv => lhs; rw [hs, hz]
        exact dval_snoc_zero _
      rw [this]
    · rw [if_neg (by simp [hz])]
      have := nd_snoc B32_le (xs.take n) xs[n] hdt hz
      rw [← hs] at this
      rw [this]
def S.i_nat_trim (x : ((List Int) × Unit)) : (Option ((List Int) × Unit)) := if dig B32 x.1 = true ∧ x.1.length ≤ 1000000000000 then some (nd B32 (dval B32 x.1), ()) else none
theorem S.i_nat_trim_ok (x : ((List Int) × Unit)) (r : _) (h : S.i_nat_trim x = some r) : ∃ k, P.i_nat_trim k x = some r := by
  obtain ⟨xs, u⟩ := x
  unfold S.i_nat_trim at h
  dsimp only at h
  split at h
  case isFalse => cases h
  rename_i hc
  cases h
  exact ⟨xs.length + 1, trim_loop xs.length xs _ rfl (by omega) hc.2 hc.1⟩
theorem trim_i (xs : List Int) (h : dig B32 xs = true) (hl : xs.length ≤ 1000000000000) : S.i_nat_trim (xs, ()) = some (nd B32 (dval B32 xs), ()) := by
  unfold S.i_nat_trim
  dsimp only
  rw [if_pos ⟨h, hl⟩]
abbrev P.i_nat_divSmall_b0  (x1 : (Int × (Int × ((List Int) × ((List Int) × (Int × Unit)))))) (g2 : (Int × (Int × ((List Int) × ((List Int) × (Int × Unit))))) → Option (((List Int) × Int) × Unit)) : Option (((List Int) × Int) × Unit) :=
 (if ((decide (x1.1 ≥ (0 : Int))) = true) then (if ((decide ((0 : Int) ≤ x1.1)) = true) then (if ((decide (x1.1 < (((List.length x1.2.2.1) : Nat) : Int))) = true) then (if ((decide ((Go.IntKind.wrap Go.IntKind.u64 x1.2.2.2.2.1) = (0 : Int))) = true) then none
 else (if ((decide ((0 : Int) ≤ x1.1)) = true) then (if ((decide (x1.1 < (((List.length x1.2.2.2.1) : Nat) : Int))) = true) then (if ((decide ((Go.IntKind.wrap Go.IntKind.u64 x1.2.2.2.2.1) = (0 : Int))) = true) then none
 else (g2 ((Go.IntKind.wrap Go.IntKind.i64 (x1.1 - (1 : Int))) , ((Int.tmod (Go.IntKind.wrap Go.IntKind.u64 ((Go.IntKind.wrap Go.IntKind.u64 (x1.2.1 * (4294967296 : Int))) + (Go.IntKind.wrap Go.IntKind.u64 (List.getD x1.2.2.1 (Int.toNat x1.1) (0 : Int))))) (Go.IntKind.wrap Go.IntKind.u64 x1.2.2.2.2.1)) , (x1.2.2.1 , ((List.set x1.2.2.2.1 ((0 : Nat) + (Int.toNat x1.1)) (Go.IntKind.wrap Go.IntKind.u32 (Go.IntKind.wrap Go.IntKind.u64 (Int.tdiv (Go.IntKind.wrap Go.IntKind.u64 ((Go.IntKind.wrap Go.IntKind.u64 (x1.2.1 * (4294967296 : Int))) + (Go.IntKind.wrap Go.IntKind.u64 (List.getD x1.2.2.1 (Int.toNat x1.1) (0 : Int))))) (Go.IntKind.wrap Go.IntKind.u64 x1.2.2.2.2.1))))) , (x1.2.2.2.2.1 , ())))))))
 else none)
 else none))
 else none)
 else none)
 else (Option.bind (S.i_nat_trim (x1.2.2.2.1 , ())) (fun (y3 : ((List Int) × Unit)) => (some ((y3.1 , (Go.IntKind.wrap Go.IntKind.u32 x1.2.1)) , ())))))
def P.i_nat_divSmall (k : Nat) (x : ((List Int) × (Int × Unit))) : (Option (((List Int) × Int) × Unit)) :=
 (if ((decide ((0 : Int) ≤ (((List.length x.1) : Nat) : Int))) = true) then (if ((decide ((((List.length x.1) : Nat) : Int) ≤ (((List.length x.1) : Nat) : Int))) = true) then (if ((decide (((((List.length x.1) : Nat) : Int) * (4 : Int)) ≤ (281474976710656 : Int))) = true) then (loopP (X := (Int × (Int × ((List Int) × ((List Int) × (Int × Unit)))))) (R := (((List Int) × Int) × Unit)) (P.i_nat_divSmall_b0 ) k ((Go.IntKind.wrap Go.IntKind.i64 ((((List.length x.1) : Nat) : Int) - (1 : Int))) , ((0 : Int) , (x.1 , ((List.replicate (Int.toNat (((List.length x.1) : Nat) : Int)) (0 : Int)) , (x.2.1 , ()))))))
 else none)
 else none)
 else none)
def S.i_nat_divSmall (x : ((List Int) × (Int × Unit))) : (Option (((List Int) × Int) × Unit)) := if dig B32 x.1 = true ∧ 0 < x.2.1 ∧ x.2.1 < 4294967296 ∧ x.1.length ≤ 1000000000000 then some ((nd B32 (dval B32 x.1 / x.2.1.toNat), ((dval B32 x.1 % x.2.1.toNat : Nat) : Int)), ()) else none
theorem S.i_nat_divSmall_ok (x : ((List Int) × (Int × Unit))) (r : _) (h : S.i_nat_divSmall x = some r) : ∃ k, P.i_nat_divSmall k x = some r := by
  obtain ⟨xs, b, u⟩ := x
  unfold S.i_nat_divSmall at h
  dsimp only at h
  split at h
  case isFalse => cases h
  rename_i hc
  obtain ⟨hd, hb0, hb1, hl⟩ := hc
  cases h
  refine ⟨xs.length + 1, ?_⟩
  unfold P.i_nat_divSmall
  dsimp only
  have a1 : (0 : Int) ≤ (xs.length : Int) := by omega
  have a2 : (xs.length : Int) ≤ (xs.length : Int) := by omega
  have a3 : (xs.length : Int) * 4 ≤ 281474976710656 := by omega
  simp only [a1, a2, a3, decide_true, if_true]
  rw [wr (by omega) (by omega), Int.toNat_natCast]
  have hdr : ∀ m, dig B32 (xs.drop m) = true := by
    intro m
    have := List.take_append_drop m xs
    have hd' := hd
    rw [← this, dig_append, Bool.and_eq_true] at hd'
    exact hd'.2
  have hbN : 0 < b.toNat := by omega
  have key := loop_up0 (k := xs.length + 1) (b := P.i_nat_divSmall_b0) (n := xs.length) (st := fun j => ((xs.length : Int) - 1 - (j : Int), ((qdiv B32 b.toNat (xs.drop (xs.length - j))).2 : Int), xs, List.replicate (xs.length - j) (0 : Int) ++ (qdiv B32 b.toNat (xs.drop (xs.length - j))).1, b, ())) (F := fun j => some ((nd B32 (dval B32 xs / b.toNat), ((dval B32 xs % b.toNat : Nat) : Int)), ())) (fun j g hj hg => by
    unfold P.i_nat_divSmall_b0
    dsimp only at hg ⊢
    obtain ⟨q1, q2, q3, q4⟩ := qdiv_ok B32 b.toNat hbN (xs.drop (xs.length - j)) (hdr _)
    have hi : xs.length - (j + 1) < xs.length := by omega
    have e5 : (xs.length : Int) - 1 - (j : Int) = ((xs.length - (j + 1) : Nat) : Int) := by omega
    have e6 : xs.drop (xs.length - (j + 1)) = xs[xs.length - (j + 1)] :: xs.drop (xs.length - j) := by
      rw [List.drop_eq_getElem_cons hi]
      congr 2
      omega
    have e7 : xs.length - j = (xs.length - (j + 1)) + 1 := by omega
    have hlen : (List.replicate (xs.length - j) (0 : Int) ++ (qdiv B32 b.toNat (xs.drop (xs.length - j))).1).length = xs.length := by
      rw [List.length_append, List.length_replicate, q2, List.length_drop]; omega
    have hx := dig_get hd hi
    have hx1 : xs[xs.length - (j + 1)] < 4294967296 := hx.2
    have hx0 := hx.1
    have hm : (qdiv B32 b.toNat (xs.drop (xs.length - j))).2 < b.toNat := by rw [q4]; exact Nat.mod_lt _ hbN
    rw [e6] at hg
    rw [hlen, e5, getD_cast xs _ _ hi]
    have a1 : ((xs.length - (j + 1) : Nat) : Int) ≥ 0 := by omega
    have a2 : (0 : Int) ≤ ((xs.length - (j + 1) : Nat) : Int) := by omega
    have a3 : ((xs.length - (j + 1) : Nat) : Int) < (xs.length : Int) := by omega
    rw [wu (x := b) (by omega) (by omega)]
    have a4 : ¬ (b = 0) := by omega
    simp only [a1, a3, a4, decide_true, decide_false, if_true, if_false, Bool.false_eq_true]
    generalize hR : (qdiv B32 b.toNat (xs.drop (xs.length - j))).2 = R at *
    generalize hX : xs[xs.length - (j + 1)] = X at *
    have hRX : (R : Int) * 4294967296 + X < b * 4294967296 := by omega
    rw [wu (x := (R : Int) * 4294967296) (by omega) (by omega), wu (x := X) (by omega) (by omega), wu (x := (R : Int) * 4294967296 + X) (by omega) (by omega)]
    have eT : Int.tdiv ((R : Int) * 4294967296 + X) b = (((R * B32 + X.toNat) / b.toNat : Nat) : Int) := by
      rw [Int.tdiv_eq_ediv_of_nonneg (by omega)]
      have : (R : Int) * 4294967296 + X = ((R * 4294967296 + X.toNat : Nat) : Int) := by omega
      rw [this]
      have hb : b = ((b.toNat : Nat) : Int) := by omega
      conv => lhs; rw [hb]
      exact (Int.natCast_ediv _ _).symm
    have eM : Int.tmod ((R : Int) * 4294967296 + X) b = (((R * B32 + X.toNat) % b.toNat : Nat) : Int) := by
      rw [Int.tmod_eq_emod_of_nonneg (by omega)]
      have : (R : Int) * 4294967296 + X = ((R * 4294967296 + X.toNat : Nat) : Int) := by omega
      rw [this]
      have hb : b = ((b.toNat : Nat) : Int) := by omega
      conv => lhs; rw [hb]
      exact (Int.natCast_emod _ _).symm
    have hQ : (R * B32 + X.toNat) / b.toNat < B32 := (Nat.div_lt_iff_lt_mul hbN).2 (by
      show R * 4294967296 + X.toNat < 4294967296 * b.toNat
      omega)
    have hQ' : (R * B32 + X.toNat) / b.toNat < 4294967296 := hQ
    have z0 : (0 : Int) ≤ (((R * B32 + X.toNat) / b.toNat : Nat) : Int) := Int.natCast_nonneg _
    have z1 : (((R * B32 + X.toNat) / b.toNat : Nat) : Int) < 4294967296 := Int.ofNat_lt.2 hQ'
    rw [eT, eM, wu z0 (Int.lt_trans z1 (by decide)), w32 z0 z1, wr (x := ((xs.length - (j + 1) : Nat) : Int) - 1) (by omega) (by omega), Nat.zero_add, Int.toNat_natCast]
    have hset : ∀ (Q : List Int) (v : Int), (List.replicate (xs.length - j) (0 : Int) ++ Q).set (xs.length - (j + 1)) v = List.replicate (xs.length - (j + 1)) 0 ++ v :: Q := by
      intro Q v
      rw [e7]
      exact set_back _ _ _
    rw [hset, ← hg]
    congr 1
    simp only [Prod.mk.injEq, qdiv]
    rw [hR]
    and_intros <;> first | rfl | omega | trivial) (fun g => by
    unfold P.i_nat_divSmall_b0
    dsimp only
    obtain ⟨q1, q2, q3, q4⟩ := qdiv_ok B32 b.toNat hbN xs hd
    rw [if_neg (by simp; omega), Nat.sub_self, List.drop_zero, List.replicate_zero, List.nil_append, trim_i _ q1 (by omega), Option.bind_some, q3, q4]
    have hm := Nat.mod_lt (dval B32 xs) hbN
    rw [w32 (by omega) (by omega)]) (by omega)
  rw [show (xs.length : Int) - 1 - ((0 : Nat) : Int) = (xs.length : Int) - 1 by omega, Nat.sub_zero, List.drop_length] at key
  simpa [qdiv] using key
abbrev P.i_nat_text_b0  (x1 : ((List Int) × ((List ByteArray) × Unit))) (g2 : ((List Int) × ((List ByteArray) × Unit)) → Option (ByteArray × Unit)) : Option (ByteArray × Unit) :=
 (if ((decide ((((List.length x1.1) : Nat) : Int) > (0 : Int))) = true) then (Option.bind (S.i_nat_divSmall (x1.1 , ((1000000000 : Int) , ()))) (fun (y3 : (((List Int) × Int) × Unit)) => (Option.bind (S.strconv_FormatUint ((Go.IntKind.wrap Go.IntKind.u64 y3.1.2) , ((10 : Int) , ()))) (fun (y4 : (ByteArray × Unit)) => (if ((decide ((((List.length y3.1.1) : Nat) : Int) > (0 : Int))) = true) then (Option.bind (S.strings_Repeat ((bs [48]) , ((Go.IntKind.wrap Go.IntKind.i64 ((9 : Int) - (((ByteArray.size y4.1) : Nat) : Int))) , ()))) (fun (y5 : (ByteArray × Unit)) => (if ((decide (((ByteArray.size y5.1) + (ByteArray.size y4.1)) ≤ (9223372036854775807 : Nat))) = true) then (if ((decide ((((List.length x1.2.1) + (List.length ((y5.1 ++ y4.1) :: ([] : List ByteArray)))) * (16 : Nat)) ≤ (140737488355328 : Nat))) = true) then (g2 (y3.1.1 , ((x1.2.1 ++ ((y5.1 ++ y4.1) :: ([] : List ByteArray))) , ())))
 else none)
 else none)))
 else (if ((decide ((((List.length x1.2.1) + (List.length (y4.1 :: ([] : List ByteArray)))) * (16 : Nat)) ≤ (140737488355328 : Nat))) = true) then (g2 (y3.1.1 , ((x1.2.1 ++ (y4.1 :: ([] : List ByteArray))) , ())))
 else none))))))
 else (Option.bind (S.slices_Reverse__string_string (x1.2.1 , ())) (fun (y6 : (Unit × ((List ByteArray) × Unit))) => (Option.bind (S.strings_Join ((splice x1.2.1 y6.2.1 (0 : Nat)) , ((bs []) , ()))) (fun (y7 : (ByteArray × Unit)) => (some (y7.1 , ())))))))
def P.i_nat_text (k : Nat) (x : ((List Int) × Unit)) : (Option (ByteArray × Unit)) :=
 (if (((((List.length x.1) : Nat) : Int) == (0 : Int)) = true) then (some ((bs [48]) , ()))
 else (loopP (X := ((List Int) × ((List ByteArray) × Unit))) (R := (ByteArray × Unit)) (P.i_nat_text_b0 ) k (x.1 , (([] : List ByteArray) , ()))))
def mkB (l : List UInt8) : ByteArray := ⟨l.toArray⟩
theorem join_empty (xs : List (List UInt8)) : Go.Lib.join xs [] = xs.flatten := by
  cases xs with
  | nil => rfl
  | cons x r =>
    rw [Go.Lib.join_cons, List.flatten_cons]
    congr 1
    unfold Go.Lib.joinTail
    simp
theorem it_loop (n : Nat) : ∀ (acc : List ByteArray) (k : Nat), n < k → (nd B32 n).length ≤ 100000 → acc.length + (textParts n).length ≤ 1000000 →
    loopP P.i_nat_text_b0 k (nd B32 n, (acc, ())) = Option.bind (S.slices_Reverse__string_string (acc ++ (textParts n).map mkB, ())) (fun y6 => Option.bind (S.strings_Join (Go.Cm.splice (acc ++ (textParts n).map mkB) y6.2.1 0, (bs [], ()))) (fun y7 => some (y7.1, ()))) := by
  induction n using Nat.strongRecOn with
  | ind n ih =>
    intro acc k hk hl hacc
    obtain ⟨k, rfl⟩ : ∃ j, k = j + 1 := ⟨k - 1, by omega⟩
    rw [loopP_succ]
    unfold P.i_nat_text_b0
    dsimp only
    by_cases hn : n = 0
    · subst hn
      rw [nd_zero B32_le, textParts_zero, if_neg (by simp), List.map_nil, List.append_nil]
    · have hpos : ((nd B32 n).length : Int) > 0 := by
        rw [nd_pos B32_le hn, List.length_cons]
        omega
      rw [if_pos (decide_eq_true hpos)]
      have sd : S.i_nat_divSmall (nd B32 n, (1000000000, ())) = some ((nd B32 (n / 1000000000), ((n % 1000000000 : Nat) : Int)), ()) := by
        unfold S.i_nat_divSmall
        dsimp only
        rw [if_pos ⟨dig_nd B32_le _, by omega, by omega, by omega⟩, dval_nd B32_le]
        rfl
      rw [sd, Option.bind_some]
      dsimp only
      have hm : n % 1000000000 < 1000000000 := Nat.mod_lt _ (by decide)
      have sf : S.strconv_FormatUint (Go.IntKind.wrap Go.IntKind.u64 ((n % 1000000000 : Nat) : Int), (10, ())) = some (mkB (Go.Lib.decDigits (n % 1000000000)), ()) := by
        rw [wu (by omega) (by omega)]
        unfold S.strconv_FormatUint
        dsimp only
        rw [if_pos ⟨rfl, by omega, by omega⟩, Int.toNat_natCast]
        rfl
      rw [sf, Option.bind_some]
      dsimp only
      obtain ⟨p1, p2⟩ := dec_pad 9 (n % 1000000000) (by decide) (by rw [show (10 : Nat) ^ 9 = 1000000000 by decide]; exact hm)
      have hsz : (mkB (Go.Lib.decDigits (n % 1000000000))).size = (Go.Lib.decDigits (n % 1000000000)).length := ba_sz _
      have hsh : (nd B32 (n / 1000000000)).length ≤ 100000 := by
        refine Nat.le_trans ?_ hl
        rw [nd_len B32_le]
        exact Nat.lt_of_le_of_lt (Nat.div_le_self _ _) ((nd_len B32_le n _).1 (Nat.le_refl _))
      by_cases h1 : n / 1000000000 = 0
      · rw [textParts_one hn h1, List.length_singleton] at hacc
        have hmn : n % 1000000000 = n := by omega
        have hc : (acc.length + [mkB (Go.Lib.decDigits n)].length) * 16 ≤ 140737488355328 := by
          rw [List.length_singleton]
          omega
        have hz : ¬ (((nd B32 0).length : Int) > 0) := by rw [nd_zero B32_le]; simp
        have hi := ih 0 (by omega) (acc ++ [mkB (Go.Lib.decDigits n)]) k (by omega) (by rw [nd_zero B32_le]; simp) (by rw [textParts_zero]; simp; omega)
        rw [h1, hmn, if_neg (by simpa using hz), if_pos (decide_eq_true hc), hi, textParts_zero, textParts_one hn h1, List.map_nil, List.append_nil]
        rfl
      · rw [textParts_more h1, List.length_cons] at hacc
        have hz : ((nd B32 (n / 1000000000)).length : Int) > 0 := by
          rw [nd_pos B32_le h1, List.length_cons]
          omega
        have sr : S.strings_Repeat (bs [48], (Go.IntKind.wrap Go.IntKind.i64 (9 - (((mkB (Go.Lib.decDigits (n % 1000000000))).size : Nat) : Int)), ())) = some (mkB (List.replicate (9 - (Go.Lib.decDigits (n % 1000000000)).length) 48), ()) := by
          rw [hsz, wr (by omega) (by omega)]
          unfold S.strings_Repeat
          dsimp only
          have h48 : (bs [48]).data.toList = [48] := rfl
          rw [if_pos ⟨by omega, by omega, by decide⟩, h48, repeatL_one, show ((9 : Int) - ((Go.Lib.decDigits (n % 1000000000)).length : Int)).toNat = 9 - (Go.Lib.decDigits (n % 1000000000)).length by omega]
          rfl
        rw [if_pos (decide_eq_true hz), sr, Option.bind_some]
        dsimp only
        have hsum : (mkB (List.replicate (9 - (Go.Lib.decDigits (n % 1000000000)).length) 48)).size + (mkB (Go.Lib.decDigits (n % 1000000000))).size ≤ 9223372036854775807 := by
          rw [hsz, show (mkB (List.replicate (9 - (Go.Lib.decDigits (n % 1000000000)).length) 48)).size = _ from ba_sz _, List.length_replicate]
          omega
        have happ : mkB (List.replicate (9 - (Go.Lib.decDigits (n % 1000000000)).length) 48) ++ mkB (Go.Lib.decDigits (n % 1000000000)) = mkB (decPad 9 (n % 1000000000)) := by
          rw [← p1]
          exact ba_app _ _
        have hc : (acc.length + [mkB (decPad 9 (n % 1000000000))].length) * 16 ≤ 140737488355328 := by
          rw [List.length_singleton]
          omega
        have hi := ih (n / 1000000000) (by omega) (acc ++ [mkB (decPad 9 (n % 1000000000))]) k (by omega) hsh (by simp; omega)
        rw [if_pos (decide_eq_true hsum), happ, if_pos (decide_eq_true hc), hi, textParts_more h1, List.map_cons, List.append_assoc]
        rfl
def S.i_nat_text (x : ((List Int) × Unit)) : (Option (ByteArray × Unit)) := if canon B32 x.1 = true ∧ x.1.length ≤ 100000 then some (⟨(Go.Lib.decDigits (dval B32 x.1)).toArray⟩, ()) else none
theorem S.i_nat_text_ok (x : ((List Int) × Unit)) (r : _) (h : S.i_nat_text x = some r) : ∃ k, P.i_nat_text k x = some r := by
  obtain ⟨xs, u⟩ := x
  unfold S.i_nat_text at h
  dsimp only at h
  split at h
  case isFalse => cases h
  rename_i hc
  obtain ⟨ca, la⟩ := hc
  cases h
  refine ⟨dval B32 xs + 1, ?_⟩
  unfold P.i_nat_text
  dsimp only
  by_cases he : xs = []
  · subst he
    rw [if_pos (by rfl), show dval B32 [] = 0 from rfl, dec_small (by decide)]
    rfl
  · have hpos : 0 < xs.length := List.length_pos_iff.2 he
    have h0 : dval B32 xs ≠ 0 := by
      intro q
      have := canon_eq ca
      rw [q, nd_zero B32_le] at this
      exact he this.symm
    have hb : dval B32 xs < B32 ^ xs.length := dval_lt (canon_dig ca)
    have hb2 : dval B32 xs < (10 ^ 10) ^ xs.length := Nat.lt_of_lt_of_le hb (Nat.pow_le_pow_left (by decide) _)
    rw [← Nat.pow_mul] at hb2
    have hlen : (Go.Lib.decDigits (dval B32 xs)).length ≤ 10 * xs.length := dec_len (by omega) hb2
    have hb3 : dval B32 xs < B10 ^ (2 * xs.length) := by
      refine Nat.lt_of_lt_of_le hb ?_
      rw [Nat.pow_mul]
      exact Nat.pow_le_pow_left (by decide) _
    have hparts : (textParts (dval B32 xs)).length ≤ 2 * xs.length := by
      rw [textParts_len, nd_len B10_le]
      exact hb3
    rw [if_neg (by simp; exact he)]
    have key := it_loop (dval B32 xs) [] (dval B32 xs + 1) (by omega) (by rw [canon_eq ca]; omega) (by simp; omega)
    rw [canon_eq ca, List.nil_append] at key
    rw [key]
    have hall := textParts_all h0
    generalize textParts (dval B32 xs) = ps at *
    unfold S.slices_Reverse__string_string S.strings_Join
    dsimp only
    have hj : joinB (Go.Cm.splice (ps.map mkB) (ps.map mkB).reverse 0) (bs []) = Go.Lib.decDigits (dval B32 xs) := by
      rw [splice_all (by simp)]
      unfold joinB
      rw [show (bs []).data.toList = [] from rfl, join_empty, ← List.map_reverse, List.map_map]
      rw [show (fun x : ByteArray => x.data.toList) ∘ mkB = id by funext l; simp [mkB], List.map_id]
      exact hall
    rw [if_pos (by simp; omega), Option.bind_some]
    dsimp only
    rw [hj, if_pos ⟨by rw [splice_all (by simp)]; simp; omega, by omega⟩, Option.bind_some]
def P.i_rat_text (k : Nat) (x : ((Bool × ((List Int) × (List Int))) × Unit)) : (Option ((ByteArray × Bool) × Unit)) :=
 (Option.bind (S.i_nat_text (x.1.2.1 , ())) (fun (y0 : (ByteArray × Unit)) => (Option.bind (S.i_nat_text (x.1.2.2 , ())) (fun (y1 : (ByteArray × Unit)) => (if (x.1.1 = true) then (if ((decide (((1 : Nat) + (ByteArray.size y0.1)) ≤ (9223372036854775807 : Nat))) = true) then (if ((!((ByteArray.toList y1.1) == (ByteArray.toList (bs [49])))) = true) then (if ((decide (((1 : Nat) + (ByteArray.size y1.1)) ≤ (9223372036854775807 : Nat))) = true) then (if ((decide (((ByteArray.size ((bs [45]) ++ y0.1)) + (ByteArray.size ((bs [47]) ++ y1.1))) ≤ (9223372036854775807 : Nat))) = true) then (if ((decide ((((ByteArray.size y0.1) : Nat) : Int) ≤ (200 : Int))) = true) then (some (((((bs [45]) ++ y0.1) ++ ((bs [47]) ++ y1.1)) , (decide ((((ByteArray.size y1.1) : Nat) : Int) ≤ (200 : Int)))) , ()))
 else (some (((((bs [45]) ++ y0.1) ++ ((bs [47]) ++ y1.1)) , false) , ())))
 else none)
 else none)
 else (if ((decide ((((ByteArray.size y0.1) : Nat) : Int) ≤ (200 : Int))) = true) then (some ((((bs [45]) ++ y0.1) , (decide ((((ByteArray.size y1.1) : Nat) : Int) ≤ (200 : Int)))) , ()))
 else (some ((((bs [45]) ++ y0.1) , false) , ()))))
 else none)
 else (if ((!((ByteArray.toList y1.1) == (ByteArray.toList (bs [49])))) = true) then (if ((decide (((1 : Nat) + (ByteArray.size y1.1)) ≤ (9223372036854775807 : Nat))) = true) then (if ((decide (((ByteArray.size y0.1) + (ByteArray.size ((bs [47]) ++ y1.1))) ≤ (9223372036854775807 : Nat))) = true) then (if ((decide ((((ByteArray.size y0.1) : Nat) : Int) ≤ (200 : Int))) = true) then (some (((y0.1 ++ ((bs [47]) ++ y1.1)) , (decide ((((ByteArray.size y1.1) : Nat) : Int) ≤ (200 : Int)))) , ()))
 else (some (((y0.1 ++ ((bs [47]) ++ y1.1)) , false) , ())))
 else none)
 else none)
 else (if ((decide ((((ByteArray.size y0.1) : Nat) : Int) ≤ (200 : Int))) = true) then (some ((y0.1 , (decide ((((ByteArray.size y1.1) : Nat) : Int) ≤ (200 : Int)))) , ()))
 else (some ((y0.1 , false) , ())))))))))
def S.i_rat_text (x : ((Bool × ((List Int) × (List Int))) × Unit)) : (Option ((ByteArray × Bool) × Unit)) := if rok B32 100000 x.1 = true then some ((⟨(ratTx (rv B32 x.1)).toArray⟩, fitN (rv B32 x.1)), ()) else none
theorem S.i_rat_text_ok (x : ((Bool × ((List Int) × (List Int))) × Unit)) (r : _) (h : S.i_rat_text x = some r) : ∃ k, P.i_rat_text k x = some r := by
  obtain ⟨⟨neg, as, bs'⟩, u⟩ := x
  unfold S.i_rat_text at h
  dsimp only at h
  split at h
  case isFalse => cases h
  rename_i hc
  rw [rok_iff] at hc
  obtain ⟨ca, cb, la, lb⟩ := hc
  dsimp only at ca cb la lb
  cases h
  refine ⟨0, ?_⟩
  unfold P.i_rat_text
  dsimp only
  have e1 : ∀ xs, canon B32 xs = true → xs.length ≤ 100000 → S.i_nat_text (xs, ()) = some (⟨(Go.Lib.decDigits (dval B32 xs)).toArray⟩, ()) := by
    intro xs cx lx
    unfold S.i_nat_text
    exact if_pos ⟨cx, lx⟩
  rw [e1 as ca la, Option.bind_some, e1 bs' cb lb, Option.bind_some]
  dsimp only
  have l1 := canon_dec (show B32 ≤ 10 ^ 10 by decide) ca
  have l2 := canon_dec (show B32 ≤ 10 ^ 10 by decide) cb
  unfold rv ratTx fitN
  dsimp only
  have hd1 := dec_one (dval B32 bs')
  generalize Go.Lib.decDigits (dval B32 as) = t1 at *
  generalize Go.Lib.decDigits (dval B32 bs') = t2 at *
  rw [ByteArray.toList_eq, ByteArray.toList_eq, show bs [49] = ⟨([49] : List UInt8).toArray⟩ from rfl, show bs [45] = ⟨([45] : List UInt8).toArray⟩ from rfl, show bs [47] = ⟨([47] : List UInt8).toArray⟩ from rfl]
  rw [ba_app, ba_app, ba_app, ba_app, ba_sz, ba_sz, ba_sz, ba_sz]
  have c1 : (1 + t1.length ≤ 9223372036854775807) := by omega
  have c2 : (1 + t2.length ≤ 9223372036854775807) := by omega
  have c3 : ([45] ++ t1).length + ([47] ++ t2).length ≤ 9223372036854775807 := by simp; omega
  have c4 : t1.length + ([47] ++ t2).length ≤ 9223372036854775807 := by simp; omega
  simp only [c1, c2, c3, c4, decide_true, if_true]
  have d1 : ∀ t : List UInt8, decide (((t.length : Nat) : Int) ≤ 200) = decide (t.length ≤ 200) := by
    intro t
    rw [decide_eq_decide]
    omega
  rw [d1, d1]
  have d2 : ((!(t2 == [49])) = true) ↔ ¬ dval B32 bs' = 1 := by
    rw [← hd1]
    simp
  by_cases hq : dval B32 bs' = 1
  · have n2 : ¬ ((!(t2 == [49])) = true) := by rw [d2]; exact fun q => q hq
    cases neg <;> simp only [n2, hq, if_true, if_false, Bool.false_eq_true, List.append_nil, List.nil_append] <;> cases decide (t1.length ≤ 200) <;> simp
  · have n2 : ((!(t2 == [49])) = true) := d2.2 hq
    cases neg <;> simp only [n2, hq, if_true, if_false, Bool.false_eq_true, List.nil_append] <;> cases decide (t1.length ≤ 200) <;> simp
abbrev P.i_toldList_b0  (x1 : (Int × (Int × ((List (Bool × ((List Int) × (List Int)))) × ((List ByteArray) × Unit))))) (g2 : (Int × (Int × ((List (Bool × ((List Int) × (List Int)))) × ((List ByteArray) × Unit)))) → Option (((List ByteArray) × Bool) × Unit)) : Option (((List ByteArray) × Bool) × Unit) :=
 (if ((decide (x1.1 < x1.2.1)) = true) then (if ((decide ((0 : Int) ≤ x1.1)) = true) then (if ((decide (x1.1 < (((List.length x1.2.2.1) : Nat) : Int))) = true) then (Option.bind (S.i_rat_text (((List.getD x1.2.2.1 (Int.toNat x1.1) (false , (([] : List Int) , ([] : List Int)))).1 , ((List.getD x1.2.2.1 (Int.toNat x1.1) (false , (([] : List Int) , ([] : List Int)))).2.1 , (List.getD x1.2.2.1 (Int.toNat x1.1) (false , (([] : List Int) , ([] : List Int)))).2.2)) , ())) (fun (y3 : ((ByteArray × Bool) × Unit)) => (if ((!y3.1.2) = true) then (some ((([] : List ByteArray) , false) , ()))
 else (if ((decide ((((List.length x1.2.2.2.1) + (List.length (y3.1.1 :: ([] : List ByteArray)))) * (16 : Nat)) ≤ (140737488355328 : Nat))) = true) then (g2 ((Go.IntKind.wrap Go.IntKind.i64 (x1.1 + (1 : Int))) , (x1.2.1 , (x1.2.2.1 , ((x1.2.2.2.1 ++ (y3.1.1 :: ([] : List ByteArray))) , ())))))
 else none))))
 else none)
 else none)
 else (some ((x1.2.2.2.1 , true) , ())))
def P.i_toldList (k : Nat) (x : ((List (Bool × ((List Int) × (List Int)))) × Unit)) : (Option (((List ByteArray) × Bool) × Unit)) :=
 (loopP (X := (Int × (Int × ((List (Bool × ((List Int) × (List Int)))) × ((List ByteArray) × Unit))))) (R := (((List ByteArray) × Bool) × Unit)) (P.i_toldList_b0 ) k ((0 : Int) , ((((List.length x.1) : Nat) : Int) , (x.1 , (([] : List ByteArray) , ())))))
def S.i_toldList (x : ((List (Bool × ((List Int) × (List Int)))) × Unit)) : (Option (((List ByteArray) × Bool) × Unit)) := if x.1.all (rok B32 100000) = true ∧ x.1.length ≤ 1000000 then some (giveL (x.1.map (rv B32)), ()) else none
theorem S.i_toldList_ok (x : ((List (Bool × ((List Int) × (List Int)))) × Unit)) (r : _) (h : S.i_toldList x = some r) : ∃ k, P.i_toldList k x = some r := by
  obtain ⟨xs, u⟩ := x
  unfold S.i_toldList at h
  dsimp only at h
  split at h
  case isFalse => cases h
  rename_i hc
  cases h
  obtain ⟨qs, rfl⟩ : ∃ qs : List Q3, xs = qs.map (rp B32) := ⟨xs.map (rv B32), by
    rw [List.map_map]
    have : ∀ ys : List (Bool × (List Int × List Int)), ys.all (rok B32 100000) = true → ys.map (rp B32 ∘ rv B32) = ys := by
      intro ys
      induction ys with
      | nil => intro _; rfl
      | cons y ys ih =>
        intro hy
        rw [List.all_cons, Bool.and_eq_true] at hy
        rw [List.map_cons, ih hy.2]
        show rp B32 (rv B32 y) :: ys = _
        rw [rp_rv hy.1]
    exact (this xs hc.1).symm⟩
  have hlen := hc.2
  rw [List.length_map] at hlen
  refine ⟨qs.length + 1, ?_⟩
  unfold P.i_toldList giveL
  dsimp only
  have key := loop_up0 (k := qs.length + 1) (b := P.i_toldList_b0) (n := qs.length) (st := fun i => ((i : Int), (qs.length : Int), qs.map (rp B32), (qs.take i).map (fun r : Q3 => (⟨(ratTx r).toArray⟩ : ByteArray)), ())) (F := fun i => some (if (qs.drop i).all fitN = true then (qs.map (fun r : Q3 => (⟨(ratTx r).toArray⟩ : ByteArray)), true) else ([], false), ())) (fun i g hi hg' => by
    unfold P.i_toldList_b0
    dsimp only at hg' ⊢
    have e1 : (i : Int) < (qs.length : Int) := by omega
    have e2 : (0 : Int) ≤ (i : Int) := by omega
    have e3 : (i : Int) < ((qs.map (rp B32)).length : Int) := by rw [List.length_map]; omega
    simp only [e1, e2, e3, decide_true, if_true]
    rw [getD_cast (qs.map (rp B32)) i _ (by rw [List.length_map]; exact hi), List.getElem_map]
    have ht : S.i_rat_text (rp B32 qs[i], ()) = some ((⟨(ratTx qs[i]).toArray⟩, fitN qs[i]), ()) := by
      unfold S.i_rat_text
      dsimp only
      rw [if_pos (by have := List.all_eq_true.1 hc.1 _ (List.mem_map.2 ⟨qs[i], List.getElem_mem hi, rfl⟩); exact this), rv_rp B32_le]
    show Option.bind (S.i_rat_text (rp B32 qs[i], ())) _ = _
    rw [ht, Option.bind_some, List.drop_eq_getElem_cons hi, List.all_cons]
    dsimp only
    cases hf : fitN qs[i]
    · rw [if_pos (by decide), Bool.false_and, if_neg (by decide)]
    · skip
      skip
      have e4 : (((qs.take i).map (fun r : Q3 => (⟨(ratTx r).toArray⟩ : ByteArray))).length + 1) * 16 ≤ 140737488355328 := by
        rw [List.length_map, List.length_take]
        omega
      rw [if_neg (by simp), wr (by omega) (by omega), Bool.true_and, ← hg']
      simp only [List.length_cons, List.length_nil, Nat.zero_add]
      rw [if_pos (decide_eq_true e4), List.take_add_one, List.getElem?_eq_getElem hi, Option.toList_some, List.map_append]
      rfl) (fun g => by
    unfold P.i_toldList_b0
    dsimp only
    rw [if_neg (by simp), List.take_length, List.drop_length]
    rfl) (by omega)
  rw [map_rv B32_le, List.length_map]
  refine key.trans ?_
  rw [List.drop_zero]
  by_cases ha : qs.all fitN = true
  · rw [if_pos ha, if_pos ha]
    congr 3
    refine List.map_congr_left fun r hr => ?_
    unfold giveN
    rw [if_pos (List.all_eq_true.1 ha r hr)]
  · rw [if_neg ha, if_neg ha]
def S.strings_Cut (x : (ByteArray × (ByteArray × Unit))) : (Option ((ByteArray × (ByteArray × Bool)) × Unit)) := if x.1.size < 4294967281 then some ((⟨(Go.Lib.cut x.1.data.toList x.2.1.data.toList).1.toArray⟩, (⟨(Go.Lib.cut x.1.data.toList x.2.1.data.toList).2.1.toArray⟩, (Go.Lib.cut x.1.data.toList x.2.1.data.toList).2.2)), ()) else none
def S.strings_CutPrefix (x : (ByteArray × (ByteArray × Unit))) : (Option ((ByteArray × Bool) × Unit)) := some ((⟨(Go.Lib.trimPrefix x.1.data.toList x.2.1.data.toList).toArray⟩, Go.Lib.hasPrefix x.1.data.toList x.2.1.data.toList), ())
def P.i_natOf (k : Nat) (x : (Int × Unit)) : (Option ((List Int) × Unit)) :=
 (Option.bind (S.i_nat_trim (((Go.IntKind.wrap Go.IntKind.u32 x.1) :: ((Go.IntKind.wrap Go.IntKind.u32 (Int.fdiv x.1 (4294967296 : Int))) :: ([] : List Int))) , ())) (fun (y0 : ((List Int) × Unit)) => (some (y0.1 , ()))))
def S.i_natOf (x : (Int × Unit)) : (Option ((List Int) × Unit)) := if 0 ≤ x.1 ∧ x.1 < 18446744073709551616 then some (nd B32 x.1.toNat, ()) else none
theorem S.i_natOf_ok (x : (Int × Unit)) (r : _) (h : S.i_natOf x = some r) : ∃ k, P.i_natOf k x = some r := by
  obtain ⟨n, u⟩ := x
  unfold S.i_natOf at h
  dsimp only at h
  split at h
  case isFalse => cases h
  rename_i hc
  cases h
  refine ⟨0, ?_⟩
  unfold P.i_natOf
  dsimp only
  have hf : Int.fdiv n 4294967296 = n / 4294967296 := Int.fdiv_eq_ediv_of_nonneg _ (by omega)
  rw [hf, u32_mod n hc.1, u32_mod _ (by omega)]
  have hd : dig B32 [n % 4294967296, n / 4294967296 % 4294967296] = true := by
    rw [dig_cons, dig_cons]
    refine ⟨⟨by omega, ?_⟩, ⟨by omega, ?_⟩, rfl⟩
    · show _ < (4294967296 : Int); omega
    · show _ < (4294967296 : Int); omega
  rw [trim_i _ hd (by simp), Option.bind_some]
  have : dval B32 [n % 4294967296, n / 4294967296 % 4294967296] = n.toNat := by
    simp only [dval]
    show (n % 4294967296).toNat + 4294967296 * ((n / 4294967296 % 4294967296).toNat + 4294967296 * 0) = n.toNat
    omega
  rw [this]
abbrev P.i_nat_cmp_b0  (x1 : (Int × ((List Int) × ((List Int) × Unit)))) (g2 : (Int × ((List Int) × ((List Int) × Unit))) → Option (Int × Unit)) : Option (Int × Unit) :=
 (if ((decide (x1.1 ≥ (0 : Int))) = true) then (if ((decide ((0 : Int) ≤ x1.1)) = true) then (if ((decide (x1.1 < (((List.length x1.2.1) : Nat) : Int))) = true) then (if ((decide ((0 : Int) ≤ x1.1)) = true) then (if ((decide (x1.1 < (((List.length x1.2.2.1) : Nat) : Int))) = true) then (if (((List.getD x1.2.1 (Int.toNat x1.1) (0 : Int)) != (List.getD x1.2.2.1 (Int.toNat x1.1) (0 : Int))) = true) then (if ((decide ((0 : Int) ≤ x1.1)) = true) then (if ((decide (x1.1 < (((List.length x1.2.1) : Nat) : Int))) = true) then (if ((decide ((0 : Int) ≤ x1.1)) = true) then (if ((decide (x1.1 < (((List.length x1.2.2.1) : Nat) : Int))) = true) then (if ((decide ((List.getD x1.2.1 (Int.toNat x1.1) (0 : Int)) < (List.getD x1.2.2.1 (Int.toNat x1.1) (0 : Int)))) = true) then (some ((-1 : Int) , ()))
 else (some ((1 : Int) , ())))
 else none)
 else none)
 else none)
 else none)
 else (g2 ((Go.IntKind.wrap Go.IntKind.i64 (x1.1 - (1 : Int))) , (x1.2.1 , (x1.2.2.1 , ())))))
 else none)
 else none)
 else none)
 else none)
 else (some ((0 : Int) , ())))
def P.i_nat_cmp (k : Nat) (x : ((List Int) × ((List Int) × Unit))) : (Option (Int × Unit)) :=
 (if (((((List.length x.1) : Nat) : Int) != (((List.length x.2.1) : Nat) : Int)) = true) then (if ((decide ((((List.length x.1) : Nat) : Int) < (((List.length x.2.1) : Nat) : Int))) = true) then (some ((-1 : Int) , ()))
 else (some ((1 : Int) , ())))
 else (loopP (X := (Int × ((List Int) × ((List Int) × Unit)))) (R := (Int × Unit)) (P.i_nat_cmp_b0 ) k ((Go.IntKind.wrap Go.IntKind.i64 ((((List.length x.1) : Nat) : Int) - (1 : Int))) , (x.1 , (x.2.1 , ())))))
def S.i_nat_cmp (x : ((List Int) × ((List Int) × Unit))) : (Option (Int × Unit)) := if canon B32 x.1 = true ∧ canon B32 x.2.1 = true ∧ x.1.length ≤ 1000000000000 then some (cmpN (dval B32 x.1) (dval B32 x.2.1), ()) else none
theorem S.i_nat_cmp_ok (x : ((List Int) × ((List Int) × Unit))) (r : _) (h : S.i_nat_cmp x = some r) : ∃ k, P.i_nat_cmp k x = some r := by
  obtain ⟨xs, ys, u⟩ := x
  unfold S.i_nat_cmp at h
  dsimp only at h
  split at h
  case isFalse => cases h
  rename_i hc
  obtain ⟨cx, cy, hl⟩ := hc
  cases h
  refine ⟨xs.length + 1, ?_⟩
  unfold P.i_nat_cmp
  dsimp only
  by_cases hn : xs.length = ys.length
  · rw [if_neg (by simp [hn]), wr (by omega) (by omega)]
    have key := loop_up0 (k := xs.length + 1) (b := P.i_nat_cmp_b0) (n := xs.length) (st := fun j => ((xs.length : Int) - 1 - (j : Int), xs, ys, ())) (F := fun j => some (cmpN (dval B32 (xs.take (xs.length - j))) (dval B32 (ys.take (xs.length - j))), ())) (fun j g hj hg => by
      unfold P.i_nat_cmp_b0
      dsimp only at hg ⊢
      have e1 : (xs.length : Int) - 1 - (j : Int) ≥ 0 := by omega
      have e3 : (0 : Int) ≤ (xs.length : Int) - 1 - (j : Int) := by omega
      have e4 : (xs.length : Int) - 1 - (j : Int) < (xs.length : Int) := by omega
      have e4' : (xs.length : Int) - 1 - (j : Int) < (ys.length : Int) := by omega
      simp only [e1, e4, e4', decide_true, if_true]
      have hi : xs.length - (j + 1) < xs.length := by omega
      have hi' : xs.length - (j + 1) < ys.length := by omega
      have e5 : (xs.length : Int) - 1 - (j : Int) = ((xs.length - (j + 1) : Nat) : Int) := by omega
      have e6 : xs.length - j = (xs.length - (j + 1)) + 1 := by omega
      rw [e5, getD_cast xs _ _ hi, getD_cast ys _ _ hi', e6]
      generalize xs.length - (j + 1) = i at *
      by_cases hq : xs[i] = ys[i]
      · rw [if_neg (by simp [hq]), wr (by omega) (by omega)]
        have e7 : ((i : Nat) : Int) - 1 = (xs.length : Int) - 1 - ((j + 1 : Nat) : Int) := by omega
        rw [e7, hg, ← List.take_append_getElem hi, ← List.take_append_getElem hi', dval_append, dval_append, hq]
        have hlx : (xs.take i).length = i := by simp; omega
        have hly : (ys.take i).length = i := by simp; omega
        rw [hlx, hly]
        unfold cmpN
        simp only [Nat.add_lt_add_iff_right]
      · rw [if_pos (by simp [hq])]
        by_cases hlt : xs[i] < ys[i]
        · have := dval_top xs ys i hi hi' (canon_dig cx) (canon_dig cy) hlt
          rw [if_pos (decide_eq_true hlt), cmpN, if_pos this]
        · have := dval_top ys xs i hi' hi (canon_dig cy) (canon_dig cx) (by omega)
          rw [if_neg (by simpa using hlt), cmpN, if_neg (by omega), if_pos this]) (fun g => by
      unfold P.i_nat_cmp_b0
      dsimp only
      rw [if_neg (by simp; omega), Nat.sub_self, List.take_zero, List.take_zero]
      rfl) (by omega)
    rw [show (xs.length : Int) - 1 - ((0 : Nat) : Int) = (xs.length : Int) - 1 by omega, Nat.sub_zero, List.take_length, List.take_of_length_le (by omega)] at key
    exact key
  · rw [if_pos (by simp; omega)]
    by_cases hlt : xs.length < ys.length
    · rw [if_pos (decide_eq_true (by omega)), cmpN, if_pos (canon_small B32_le cx cy hlt)]
    · have := canon_small B32_le cy cx (by omega)
      rw [if_neg (by simp; omega), cmpN, if_neg (by omega), if_pos this]
abbrev P.i_nat_small_b0  (x1 : (Int × ((List Int) × (Int × Unit)))) (g2 : (Int × ((List Int) × (Int × Unit))) → Option ((Int × Bool) × Unit)) : Option ((Int × Bool) × Unit) :=
 (if ((decide (x1.1 ≥ (0 : Int))) = true) then (if ((decide ((((List.length x1.2.1) : Nat) : Int) ≤ (2 : Int))) = true) then (if ((decide ((0 : Int) ≤ x1.1)) = true) then (if ((decide (x1.1 < (((List.length x1.2.1) : Nat) : Int))) = true) then (g2 ((Go.IntKind.wrap Go.IntKind.i64 (x1.1 - (1 : Int))) , (x1.2.1 , ((Go.IntKind.wrap Go.IntKind.u64 ((Go.IntKind.wrap Go.IntKind.u64 (x1.2.2.1 * (4294967296 : Int))) + (Go.IntKind.wrap Go.IntKind.u64 (List.getD x1.2.1 (Int.toNat x1.1) (0 : Int))))) , ()))))
 else none)
 else none)
 else (some ((x1.2.2.1 , (decide ((((List.length x1.2.1) : Nat) : Int) ≤ (2 : Int)))) , ())))
 else (some ((x1.2.2.1 , (decide ((((List.length x1.2.1) : Nat) : Int) ≤ (2 : Int)))) , ())))
def P.i_nat_small (k : Nat) (x : ((List Int) × Unit)) : (Option ((Int × Bool) × Unit)) :=
 (loopP (X := (Int × ((List Int) × (Int × Unit)))) (R := ((Int × Bool) × Unit)) (P.i_nat_small_b0 ) k ((Go.IntKind.wrap Go.IntKind.i64 ((((List.length x.1) : Nat) : Int) - (1 : Int))) , (x.1 , ((0 : Int) , ()))))
def S.i_nat_small (x : ((List Int) × Unit)) : (Option ((Int × Bool) × Unit)) := if dig B32 x.1 = true ∧ x.1.length ≤ 1000000000000 then some ((if x.1.length ≤ 2 then ((dval B32 x.1 : Nat) : Int) else 0, decide (x.1.length ≤ 2)), ()) else none
theorem S.i_nat_small_ok (x : ((List Int) × Unit)) (r : _) (h : S.i_nat_small x = some r) : ∃ k, P.i_nat_small k x = some r := by
  obtain ⟨xs, u⟩ := x
  unfold S.i_nat_small at h
  dsimp only at h
  split at h
  case isFalse => cases h
  rename_i hc
  obtain ⟨hd, hl⟩ := hc
  cases h
  by_cases h2 : xs.length ≤ 2
  · refine ⟨xs.length + 1, ?_⟩
    unfold P.i_nat_small
    dsimp only
    rw [if_pos h2, decide_eq_true h2, wr (by omega) (by omega)]
    have key := loop_up0 (k := xs.length + 1) (b := P.i_nat_small_b0) (n := xs.length) (st := fun j => ((xs.length : Int) - 1 - (j : Int), xs, ((dval B32 (xs.drop (xs.length - j)) : Nat) : Int), ())) (F := fun j => some ((((dval B32 xs : Nat) : Int), true), ())) (fun j g hj hg => by
      unfold P.i_nat_small_b0
      dsimp only at hg ⊢
      have e1 : (xs.length : Int) - 1 - (j : Int) ≥ 0 := by omega
      have e2 : (xs.length : Int) ≤ 2 := by omega
      have e3 : (0 : Int) ≤ (xs.length : Int) - 1 - (j : Int) := by omega
      have e4 : (xs.length : Int) - 1 - (j : Int) < (xs.length : Int) := by omega
      simp only [e1, e2, e4, decide_true, if_true]
      have hi : xs.length - (j + 1) < xs.length := by omega
      have e5 : (xs.length : Int) - 1 - (j : Int) = ((xs.length - (j + 1) : Nat) : Int) := by omega
      rw [e5, getD_cast xs _ _ hi]
      have e6 : xs.drop (xs.length - (j + 1)) = xs[xs.length - (j + 1)] :: xs.drop (xs.length - j) := by
        rw [List.drop_eq_getElem_cons hi]
        congr 2
        omega
      have hx := dig_get hd hi
      have hv : dval B32 (xs.drop (xs.length - j)) < B32 ^ 1 := by
        have hdd : dig B32 (xs.drop (xs.length - j)) = true := by
          have := List.take_append_drop (xs.length - j) xs
          rw [← this, dig_append, Bool.and_eq_true] at hd
          exact hd.2
        have := dval_lt hdd
        have hp : B32 ^ (xs.drop (xs.length - j)).length ≤ B32 ^ 1 := Nat.pow_le_pow_right (by decide) (by simp; omega)
        omega
      have hv' : dval B32 (xs.drop (xs.length - j)) < 4294967296 := hv
      have hx' : xs[xs.length - (j + 1)] < 4294967296 := hx.2
      rw [e6] at hg
      rw [← hg, wr (by omega) (by omega), wu (x := (dval B32 (xs.drop (xs.length - j)) : Int) * 4294967296) (by omega) (by omega), wu (x := xs[xs.length - (j + 1)]) (by omega) (by omega), wu (by omega) (by omega)]
      congr 1
      simp only [Prod.mk.injEq, dval]
      refine ⟨by omega, trivial, ?_, trivial⟩
      show _ = (((xs[xs.length - (j + 1)]).toNat + 4294967296 * dval B32 (xs.drop (xs.length - j)) : Nat) : Int)
      omega) (fun g => by
      unfold P.i_nat_small_b0
      dsimp only
      rw [if_neg (by simp; omega), Nat.sub_self, List.drop_zero, decide_eq_true (by omega)]) (by omega)
    have e0 : dval B32 (xs.drop (xs.length - 0)) = 0 := by rw [Nat.sub_zero, List.drop_length]; rfl
    rw [show (xs.length : Int) - 1 - ((0 : Nat) : Int) = (xs.length : Int) - 1 by omega, e0] at key
    exact key
  · refine ⟨1, ?_⟩
    unfold P.i_nat_small
    rw [loopP_succ]
    unfold P.i_nat_small_b0
    dsimp only
    rw [wr (by omega) (by omega), if_pos (decide_eq_true (by omega)), if_neg (by simp; omega), if_neg h2, decide_eq_false h2, decide_eq_false (by omega)]
def S.math_bits_LeadingZeros32 (x : (Int × Unit)) : (Option (Int × Unit)) := if 0 ≤ x.1 ∧ x.1 ≤ 4294967295 then some (32 - (Go.Lib.bitLen x.1.toNat : Int), ()) else none
end Go.Cm
end
