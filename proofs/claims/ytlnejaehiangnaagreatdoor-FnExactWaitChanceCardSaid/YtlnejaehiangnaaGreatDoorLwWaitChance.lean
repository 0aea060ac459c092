import Derived.Test.YtlnejaehiangnaaGreatDoorPlWaitChance
import Derived.Test.YtlnejaehiangnaaGreatDoorCmZL
set_option linter.unusedVariables false
namespace Go.Cm
theorem inb_i (n a b : Int) : S.i_in (n, (a, (b, ()))) = some (decide (a ≤ n ∧ n ≤ b), ()) := by
  unfold S.i_in P.i_in
  dsimp only
  by_cases h : n ≥ a
  · rw [if_pos (decide_eq_true h)]
    congr 2
    rw [decide_eq_decide]
    omega
  · rw [if_neg (by simpa using h)]
    congr 2
    symm
    exact decide_eq_false (by omega)
theorem inb_s (n a b : Int) : S.s_l00In (n, (a, (b, ()))) = some (decide (a ≤ n ∧ n ≤ b), ()) := by
  unfold S.s_l00In P.s_l00In
  dsimp only
  by_cases h : n ≥ a
  · rw [if_pos (decide_eq_true h)]
    congr 2
    rw [decide_eq_decide]
    omega
  · rw [if_neg (by simpa using h)]
    congr 2
    symm
    exact decide_eq_false (by omega)
theorem cmp_i {x y : Q3} (hx : low x) (hy : low y) (bx : below 800000 x) (bY : below 800000 y) : S.i_rat_cmp (rp B32 x, (rp B32 y, ())) = some (cmpZ x y, ()) := ri_cmp hx hy bx bY
/-- The chance to wait. -/
def waitQ (r : Q3) (n : Nat) : Q3 := overQ (mulQ (wholeQ n) (lossQ r n)) (addQ (wholeQ n) (oppQ (mulQ r (addQ oneQ (oppQ (lossQ r n))))))
def waitT (s : ByteArray) (n : Int) : ByteArray × Bool := if ((posR s).2 && (decide (1 ≤ n ∧ n ≤ 20) && decide (cmpZ (posR s).1 (wholeQ n) < 0))) = true then giveN (waitQ (posR s).1 n.toNat) else (bs [], false)
structure WaitOk (r : Q3) (n : Nat) : Prop where
  l : low (lossQ r n)
  b : below 4062 (lossQ r n)
  l1 : low (mulQ (wholeQ n) (lossQ r n))
  b1 : below 4064 (mulQ (wholeQ n) (lossQ r n))
  l2 : low (addQ oneQ (oppQ (lossQ r n)))
  b2 : below 4064 (addQ oneQ (oppQ (lossQ r n)))
  l3 : low (mulQ r (addQ oneQ (oppQ (lossQ r n))))
  b3 : below 4264 (mulQ r (addQ oneQ (oppQ (lossQ r n))))
  l4 : low (addQ (wholeQ n) (oppQ (mulQ r (addQ oneQ (oppQ (lossQ r n))))))
  b4 : below 4267 (addQ (wholeQ n) (oppQ (mulQ r (addQ oneQ (oppQ (lossQ r n))))))
  n4 : (addQ (wholeQ n) (oppQ (mulQ r (addQ oneQ (oppQ (lossQ r n)))))).2.1 ≠ 0
theorem wait_ok {r : Q3} (gl : low r) (gb : below 200 r) (gp : posQ r = true) {n : Nat} (h1 : n ≤ 20) (hc : cmpZ r (wholeQ n) < 0) : WaitOk r n := by
  have hL := lossQ_low gl gp n
  have hB : below 4062 (lossQ r n) := below_mono (by omega) (lossQ_below gl gp gb n (by omega))
  have hw : below 2 (wholeQ (n : Int)) := whole20_below (by omega) (by omega)
  have l2 := addQ_low _ _ oneQ_low (oppQ_low _ hL.1)
  have l3 := mulQ_low _ _ gl l2
  have l4 := addQ_low _ _ (wholeQ_low (n : Int)) (oppQ_low _ l3)
  refine ⟨hL.1, hB, mulQ_low _ _ (wholeQ_low _) hL.1, below_mono (by omega) (mulQ_below hw hB), l2, below_mono (by omega) (addQ_below (oneQ_below (n := 1) (by decide)) (oppQ_below hB)), l3, ?_, l4, ?_, fun e => ?_⟩
  · exact below_mono (m := 200 + (1 + 4062 + 1)) (by omega) (mulQ_below gb (addQ_below (oneQ_below (n := 1) (by decide)) (oppQ_below hB)))
  · exact below_mono (m := 2 + (200 + (1 + 4062 + 1)) + 1) (by omega) (addQ_below hw (oppQ_below (mulQ_below gb (addQ_below (oneQ_below (n := 1) (by decide)) (oppQ_below hB)))))
  · have e0 := (qv_zero_iff l4).2 e
    rw [qv_add (wholeQ_low _) (oppQ_low _ l3), qv_opp l3, qv_mul gl l2, qv_add oneQ_low (oppQ_low _ hL.1), qv_opp hL.1, qv_oneQ, qv_whole] at e0
    have hlt := ((cmpZ_ok gl (wholeQ_low _)).1).1 hc
    rw [qv_whole] at hlt
    have hp := Rat.mul_pos ((posQ_iff gl).1 gp) hL.2
    generalize qv r = a at *
    generalize qv (lossQ r n) = b at *
    generalize (((n : Int) : Int) : Rat) = c at *
    have : c + -(a * (1 + -b)) = (c - a) + a * b := by grind
    grind
theorem s_law (a : ByteArray) (n : Int) (ha : a.size ≤ 1000000) : S.s_WaitChance (a, (n, ())) = some (waitT a n, ()) := by
  unfold S.s_WaitChance P.s_WaitChance S.s_l02Rate waitT S.s_l02Servers P.s_l02Servers
  dsimp only
  rw [if_pos ha, Option.bind_some]
  dsimp only
  have g := posR_ok (s := a)
  cases hf : (posR a).2
  · rfl
  obtain ⟨gl, gb, gp⟩ := g hf
  generalize (posR a).1 = r at *
  rw [if_neg (by decide), inb_s, Option.bind_some, Option.bind_some]
  dsimp only
  by_cases hc : 1 ≤ n ∧ n ≤ 20
  case neg =>
    rw [decide_eq_false hc]
    rfl
  rw [decide_eq_true hc, if_neg (by decide), rs_int (by omega) (by omega), Option.bind_some]
  dsimp only
  have hw : below 2 (wholeQ n) := whole20_below (by omega) (by omega)
  have hless : S.s_l01Less (rp B10 r, (rp B10 (wholeQ n), ())) = some (decide (cmpZ r (wholeQ n) < 0), ()) := rs_less gl (wholeQ_low _) (below_mono (by decide) gb) (below_mono (by decide) hw)
  show Option.bind (S.s_l01Less (rp B10 r, (rp B10 (wholeQ n), ()))) _ = _
  rw [hless, Option.bind_some]
  dsimp only
  by_cases hlt : cmpZ r (wholeQ n) < 0
  case neg =>
    rw [decide_eq_false hlt]
    rfl
  rw [decide_eq_true hlt, if_neg (by decide), if_pos (by decide)]
  obtain ⟨M, rfl⟩ : ∃ M : Nat, n = (M : Int) := ⟨n.toNat, by omega⟩
  have W := wait_ok gl gb gp (by omega) hlt
  have e : S.s_l02Loss (rp B10 r, ((M : Int), ())) = some (rp B10 (lossQ r M), ()) := by
    unfold S.s_l02Loss
    dsimp only
    rw [if_pos ⟨⟨r, rfl, gl, gb, gp⟩, by omega, by omega⟩, rv_rp B10_le, Int.toNat_natCast]
  have h1 : S.s_l01One () = some (rp B10 oneQ, ()) := by rfl
  show Option.bind (S.s_l02Loss (rp B10 r, ((M : Int), ()))) _ = _
  rw [e, Option.bind_some, Option.bind_some]
  show Option.bind (S.s_l01Times (rp B10 (wholeQ M), (rp B10 (lossQ r M), ()))) _ = _
  rw [rs_mul (wholeQ_low _) hw W.l W.b (by decide) (by decide), Option.bind_some, h1, Option.bind_some]
  show Option.bind (S.s_l01Minus (rp B10 oneQ, (rp B10 (lossQ r M), ()))) _ = _
  rw [rs_sub oneQ_low (oneQ_below (n := 1) (by decide)) W.l W.b (by decide) (by decide), Option.bind_some]
  show Option.bind (S.s_l01Times (rp B10 r, (rp B10 (addQ oneQ (oppQ (lossQ r M))), ()))) _ = _
  rw [rs_mul gl gb W.l2 W.b2 (by decide) (by decide), Option.bind_some]
  show Option.bind (S.s_l01Minus (rp B10 (wholeQ M), (rp B10 (mulQ r (addQ oneQ (oppQ (lossQ r M)))), ()))) _ = _
  rw [rs_sub (wholeQ_low _) hw W.l3 W.b3 (by decide) (by decide), Option.bind_some]
  show Option.bind (S.s_l01Over (rp B10 (mulQ (wholeQ M) (lossQ r M)), (rp B10 (addQ (wholeQ M) (oppQ (mulQ r (addQ oneQ (oppQ (lossQ r M)))))), ()))) _ = _
  rw [rs_over W.l1 W.b1 W.l4 W.b4 W.n4 (by decide) (by decide), Option.bind_some]
  show Option.bind (S.s_l02Give (rp B10 (waitQ r M), ())) _ = _
  have hbw : below (4064 + 4267) (waitQ r M) := overQ_below W.b1 W.b4
  rw [rs_give2 hbw (by decide), Option.bind_some, Int.toNat_natCast]
theorem i_law (a : ByteArray) (n : Int) (ha : a.size ≤ 1000000) : S.i_WaitChance (a, (n, ())) = some (waitT a n, ()) := by
  unfold S.i_WaitChance P.i_WaitChance S.i_positive waitT
  dsimp only
  rw [if_pos ha, Option.bind_some]
  dsimp only
  have g := posR_ok (s := a)
  cases hf : (posR a).2
  · rfl
  obtain ⟨gl, gb, gp⟩ := g hf
  generalize (posR a).1 = r at *
  rw [if_neg (by decide), inb_i, Option.bind_some]
  dsimp only
  by_cases hc : 1 ≤ n ∧ n ≤ 20
  case neg =>
    rw [decide_eq_false hc]
    rfl
  rw [decide_eq_true hc, if_neg (by decide), ri_whole (by omega) (by omega), Option.bind_some]
  have hw : below 2 (wholeQ n) := whole20_below (by omega) (by omega)
  show Option.bind (S.i_rat_cmp (rp B32 r, (rp B32 (wholeQ n), ()))) _ = _
  rw [cmp_i gl (wholeQ_low _) (below_mono (by decide) gb) (below_mono (by decide) hw), Option.bind_some]
  dsimp only
  by_cases hlt : cmpZ r (wholeQ n) < 0
  case neg =>
    rw [decide_eq_false hlt, if_pos (decide_eq_true (by omega))]
    rfl
  rw [decide_eq_true hlt, if_neg (by simpa using hlt), if_pos (by decide)]
  obtain ⟨M, rfl⟩ : ∃ M : Nat, n = (M : Int) := ⟨n.toNat, by omega⟩
  have W := wait_ok gl gb gp (by omega) hlt
  have e : S.i_losses (rp B32 r, ((M : Int), ())) = some ((List.range (M + 1)).map (fun i => rp B32 (lossQ r i)), ()) := by
    unfold S.i_losses
    dsimp only
    rw [if_pos ⟨⟨r, rfl, gl, gb, gp⟩, by omega, by omega⟩, rv_rp B32_le, Int.toNat_natCast]
  have h1 : S.i_whole (1, ()) = some (rp B32 oneQ, ()) := by rfl
  show Option.bind (S.i_losses (rp B32 r, ((M : Int), ()))) _ = _
  rw [e, Option.bind_some]
  dsimp only
  rw [if_pos (decide_eq_true (show (0 : Int) ≤ (M : Int) by omega)), if_pos (decide_eq_true (by rw [List.length_map, List.length_range]; omega)), getD_cast _ M _ (by rw [List.length_map, List.length_range]; omega), List.getElem_map, List.getElem_range, Option.bind_some]
  show Option.bind (S.i_rat_mul (rp B32 (wholeQ M), (rp B32 (lossQ r M), ()))) _ = _
  rw [ri_mul (wholeQ_low _) hw W.l W.b (by decide) (by decide), Option.bind_some, h1, Option.bind_some]
  show Option.bind (S.i_rat_sub (rp B32 oneQ, (rp B32 (lossQ r M), ()))) _ = _
  rw [ri_sub oneQ_low (oneQ_below (n := 1) (by decide)) W.l W.b (by decide) (by decide), Option.bind_some]
  show Option.bind (S.i_rat_mul (rp B32 r, (rp B32 (addQ oneQ (oppQ (lossQ r M))), ()))) _ = _
  rw [ri_mul gl gb W.l2 W.b2 (by decide) (by decide), Option.bind_some]
  show Option.bind (S.i_rat_sub (rp B32 (wholeQ M), (rp B32 (mulQ r (addQ oneQ (oppQ (lossQ r M)))), ()))) _ = _
  rw [ri_sub (wholeQ_low _) hw W.l3 W.b3 (by decide) (by decide), Option.bind_some]
  show Option.bind (S.i_rat_over (rp B32 (mulQ (wholeQ M) (lossQ r M)), (rp B32 (addQ (wholeQ M) (oppQ (mulQ r (addQ oneQ (oppQ (lossQ r M)))))), ()))) _ = _
  rw [ri_over W.l1 W.b1 W.l4 W.b4 W.n4 (by decide) (by decide), Option.bind_some]
  show Option.bind (S.i_told (rp B32 (waitQ r M), ())) _ = _
  have hbw : below (4064 + 4267) (waitQ r M) := overQ_below W.b1 W.b4
  rw [ri_told hbw (by decide), Option.bind_some, Int.toNat_natCast]
theorem WaitChance_true (x : PTy [PK.ro Kd.str, PK.ro (Kd.int IntKind.i64)]) (h : BdA _ x) (hz : SzA _ x) : ∃ m, S.l_FnExactWaitChance x = some (true, m) := by
  obtain ⟨a, n, q⟩ := x
  refine ⟨(), ?_⟩
  show P.l_FnExactWaitChance 0 (a, (n, ())) = some (true, ())
  unfold P.l_FnExactWaitChance
  dsimp only
  by_cases hs : (a.size : Int) > 1000000
  · rw [if_pos (decide_eq_true hs)]
  · rw [if_neg (by simpa using hs), s_law a n (by omega), i_law a n (by omega), Option.bind_some, Option.bind_some]
    simp
end Go.Cm
