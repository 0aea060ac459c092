import Derived.Test.YtlnejaehiangnaaGreatDoorCmU
/-! Calls: what comes back. -/
set_option linter.unusedVariables false
namespace Go.Cm
/-- The object behind a row that was handed over. -/
def muObj : (i : Nat) → List PK → List (Nat × Nat × Nat) → Nat → Nat
  | i, .mu _ :: ps, (l, _, _) :: ls, j => if j = i then l else muObj (i + 1) ps ls j
  | _, .mu _ :: _, [], _ => 0
  | i, .ro _ :: ps, ls, j => muObj (i + 1) ps ls j
  | i, .bo _ :: ps, ls, j => muObj (i + 1) ps ls j
  | i, .fn _ :: ps, ls, j => muObj (i + 1) ps ls j
  | _, [], _, _ => 0
theorem muFp_ge {γ : Nat → CO} : ∀ {ps : List PK} {i j b o : Nat}, muFp γ i ps j b o → i ≤ j
  | [], _, _, _, _, h => h.elim
  | .mu _ :: ps, i, j, b, o, h => by
    rcases h with ⟨rfl, _⟩ | h
    · exact Nat.le_refl _
    · have := muFp_ge h; omega
  | .ro _ :: ps, i, j, b, o, h => by have := muFp_ge (ps := ps) h; omega
  | .bo _ :: ps, i, j, b, o, h => by have := muFp_ge (ps := ps) h; omega
  | .fn _ :: ps, i, j, b, o, h => by have := muFp_ge (ps := ps) h; omega
theorem shift_fp {k : Kd} {A : Option (Nat × Nat)} {cap real off len b o : Nat} {mine : Bool} {full xs : List k.Ty} (hc : off + len ≤ cap) (h : fp (.arr false false k xs) (shiftCO k.sz (.arr A cap real) off len) b o) :
    ∃ oo, A = some (b, oo) ∧ real - off ≠ 0 ∧ oo + off * k.sz ≤ o ∧ o < oo + off * k.sz + len * k.sz ∧ fp (.arr mine false k full) (.arr A cap real) b o := by
  unfold shiftCO at h
  dsimp only at h
  split at h
  · exact h.elim
  · rename_i hne
    cases A with
    | none => exact h.elim
    | some p =>
      obtain ⟨b', oo⟩ := p
      obtain ⟨rfl, h1, h2⟩ := h
      have : (off + len) * k.sz ≤ cap * k.sz := Nat.mul_le_mul_right _ hc
      rw [Nat.add_mul] at this
      exact ⟨oo, rfl, hne, h1, h2, rfl, by omega, by omega⟩
section
variable {cx : Cx} {E : En} {S : St} {α : Nat → CO} {a : Act} {w : World} {o : Oper} {us : List Up}
theorem muFp_obj (h : Inv E S α a w) {γ : Nat → CO} : ∀ {ps : List PK} {i : Nat} {x : PTy ps} {ls : List (Nat × Nat × Nat)} {j b oo : Nat}, MuOk S α γ i ps x ls → muFp γ i ps j b oo →
    fp (S.heap (muObj i ps ls j)).2 (α (muObj i ps ls j)) b oo ∧ muObj i ps ls j ∈ ls.map (·.1)
  | [], _, _, _, _, _, _, _, hf => hf.elim
  | .ro _ :: ps, i, x, ls, j, b, oo, hm, hf => muFp_obj h (ps := ps) (x := x.2) hm hf
  | .bo _ :: ps, i, x, ls, j, b, oo, hm, hf => muFp_obj h (ps := ps) (x := x.2) hm hf
  | .fn _ :: ps, i, x, ls, j, b, oo, hm, hf => muFp_obj h (ps := ps) (x := x.2) hm hf
  | .mu k :: ps, i, x, ls, j, b, oo, hm, hf => by
    obtain ⟨l, off, len, ls', rfl, ⟨mine, full, A, cap, real, m1, m2, m3, m4, m5⟩, hm'⟩ := hm
    have hor := h.obj l
    rw [m1, m2] at hor
    rcases hf with ⟨rfl, hf⟩ | hf
    · simp only [muObj, if_true]
      rw [m5, m2] at hf
      have hl1 := hor.1
      obtain ⟨o', q1, q2, q3, q4, q5⟩ := shift_fp (mine := mine) (full := full) (cap := cap) (by omega) hf
      refine ⟨?_, by simp⟩
      rw [m1, m2]
      exact q5
    · have hge := muFp_ge hf
      have hne : ¬ (j = i) := by omega
      obtain ⟨q1, q2⟩ := muFp_obj h hm' hf
      simp only [muObj, hne, if_false]
      exact ⟨q1, by simp at q2 ⊢; exact .inr q2⟩
theorem dup_not {x : Nat} {xs : List Nat} (h : dup (x :: xs) = false) : x ∉ xs ∧ dup xs = false := by
  simp only [dup, Bool.or_eq_false_iff] at h
  refine ⟨fun hx => ?_, h.2⟩
  have := List.any_eq_false.1 h.1 x hx
  rw [beq_iff] at this
  simp at this
theorem muObj_inj (h : Inv E S α a w) {γ : Nat → CO} : ∀ {ps : List PK} {i : Nat} {x : PTy ps} {ls : List (Nat × Nat × Nat)} {j j' b b' oo oo' : Nat}, MuOk S α γ i ps x ls → dup (ls.map (·.1)) = false → muFp γ i ps j b oo → muFp γ i ps j' b' oo' →
    muObj i ps ls j = muObj i ps ls j' → j = j'
  | [], _, _, _, _, _, _, _, _, _, _, _, hf, _, _ => hf.elim
  | .ro _ :: ps, i, x, ls, j, j', b, b', oo, oo', hm, hd, hf, hf', he => muObj_inj h (ps := ps) (x := x.2) hm hd hf hf' he
  | .bo _ :: ps, i, x, ls, j, j', b, b', oo, oo', hm, hd, hf, hf', he => muObj_inj h (ps := ps) (x := x.2) hm hd hf hf' he
  | .fn _ :: ps, i, x, ls, j, j', b, b', oo, oo', hm, hd, hf, hf', he => muObj_inj h (ps := ps) (x := x.2) hm hd hf hf' he
  | .mu k :: ps, i, x, ls, j, j', b, b', oo, oo', hm, hd, hf, hf', he => by
    obtain ⟨l, off, len, ls', rfl, hq, hm'⟩ := hm
    obtain ⟨d1, d2⟩ := dup_not hd
    rcases hf with ⟨e1, hf⟩ | hf <;> rcases hf' with ⟨e2, hf'⟩ | hf'
    · rw [e1, e2]
    · have hge := muFp_ge hf'
      have := (muFp_obj h hm' hf').2
      simp only [muObj, e1, if_true] at he
      rw [if_neg (by omega)] at he
      exact absurd (he ▸ this) d1
    · have hge := muFp_ge hf
      have := (muFp_obj h hm' hf).2
      simp only [muObj, e2, if_true] at he
      rw [if_neg (by omega)] at he
      exact absurd (he ▸ this) d1
    · have hge := muFp_ge hf
      have hge' := muFp_ge hf'
      simp only [muObj] at he
      rw [if_neg (by omega), if_neg (by omega)] at he
      exact muObj_inj h hm' d2 hf hf' he
/-- The rows' new contents, laid into a heap. -/
def muSet (S : St) : (ps : List PK) → MTy ps → List (Nat × Nat × Nat) → (Nat → Nat × AO) → Nat → Nat × AO
  | [], _, _, H => H
  | .mu k :: ps, m, (l, off, _) :: ls, H => muSet S ps m.2 ls (fun t => if t = l then (match (S.heap l).2 with
      | .arr mine fz k' full => if h : k = k' then ((S.heap l).1, .arr mine fz k' (splice full (castL (k' := .sl k) (k := .sl k') (by rw [h]) m.1) off)) else H t
      | _ => H t) else H t)
  | .mu _ :: _, _, [], H => H
  | .ro _ :: ps, m, ls, H => muSet S ps m ls H
  | .bo _ :: ps, m, ls, H => muSet S ps m ls H
  | .fn _ :: ps, m, ls, H => muSet S ps m ls H
theorem backs_ups : ∀ {ps : List PK} {m : MTy ps} {ls : List (Nat × Nat × Nat)} {ms : List Up}, (backs ps m ls).ev S = some ms → ∀ S' : St, S'.ups ms = { S' with heap := muSet S ps m ls S'.heap }
  | [], m, ls, ms, h, S' => by
    cases ls with
    | nil => rw [← ret_ev h]; rfl
    | cons l ls => exact (fail_ev h).elim
  | .ro _ :: ps, m, ls, ms, h, S' => backs_ups (ps := ps) (m := m) (by cases ls <;> exact h) S'
  | .bo _ :: ps, m, ls, ms, h, S' => backs_ups (ps := ps) (m := m) (by cases ls <;> exact h) S'
  | .fn _ :: ps, m, ls, ms, h, S' => backs_ups (ps := ps) (m := m) (by cases ls <;> exact h) S'
  | .mu k :: ps, m, [], ms, h, S' => (fail_ev h).elim
  | .mu k :: ps, m, (l, off, len) :: ls, ms, h, S' => by
    simp only [backs, Cm.ev] at h
    split at h
    case h_2 => exact (fail_ev h).elim
    rename_i mine fz k' full hob
    split at h
    case isFalse => exact (fail_ev h).elim
    rename_i hk
    obtain ⟨ms', h1, h2⟩ := bind_ev h
    rw [← ret_ev h2, ups_cons, backs_ups h1]
    simp only [St.up, muSet, hob, hk, dif_pos]
    congr 2
    funext t
    rw [beq_iff]
    by_cases ht : t = l <;> simp [ht]
theorem muSet_out : ∀ {ps : List PK} {m : MTy ps} {ls : List (Nat × Nat × Nat)} {H : Nat → Nat × AO} {t : Nat}, t ∉ ls.map (·.1) → muSet S ps m ls H t = H t
  | [], _, _, _, _, _ => rfl
  | .ro _ :: ps, m, ls, H, t, h => muSet_out (ps := ps) (m := m) h
  | .bo _ :: ps, m, ls, H, t, h => muSet_out (ps := ps) (m := m) h
  | .fn _ :: ps, m, ls, H, t, h => muSet_out (ps := ps) (m := m) h
  | .mu _ :: _, _, [], _, _, _ => rfl
  | .mu k :: ps, m, (l, off, len) :: ls, H, t, h => by
    simp at h
    simp only [muSet]
    rw [muSet_out (by simpa using h.2), if_neg h.1]
/-- What a written row is behind the call. -/
def MuNew (S : St) (α γ : Nat → CO) (w' : World) (M' : Nat → Nat → Prop) (i0 : Nat) (ps : List PK) (ls : List (Nat × Nat × Nat)) (l : Nat) (ob : Nat × AO) : Prop :=
  ∃ mine k full A cap real off len j, ∃ m : List k.Ty, (S.heap l).2 = .arr mine false k full ∧ α l = .arr A cap real ∧ off + len ≤ full.length ∧ m.length = len ∧ ob = ((S.heap l).1, .arr mine false k (splice full m off)) ∧ γ j = shiftCO k.sz (α l) off len ∧
    (∀ b o, A = some (b, o) → real - off ≠ 0 → ∀ (q : Nat) (x : k.Ty), m[q]? = some x → ∃ es, RdC w' M' k es x ∧ Cells0 w' b (o + off * k.sz + q * k.sz) es) ∧
    ∀ j' b o, muFp γ i0 ps j' b o → muObj i0 ps ls j' = l → fp (.arr false false k []) (shiftCO k.sz (α l) off len) b o
theorem muSet_in (h : Inv E S α a w) {γ : Nat → CO} {w' : World} {M' : Nat → Nat → Prop} : ∀ {ps : List PK} {i : Nat} {x : PTy ps} {m : MTy ps} {ls : List (Nat × Nat × Nat)} {H : Nat → Nat × AO} {t : Nat}, MuOk S α γ i ps x ls → MuBack w' M' γ i ps m → dup (ls.map (·.1)) = false →
    t ∈ ls.map (·.1) → MuNew S α γ w' M' i ps ls t (muSet S ps m ls H t)
  | [], i, x, m, ls, H, t, hm, _, _, ht => by
    have : ls = [] := hm
    subst this
    simp at ht
  | .ro _ :: ps, i, x, m, ls, H, t, hm, hb, hd, ht => muSet_in h (ps := ps) (x := x.2) (m := m) hm hb hd ht
  | .bo _ :: ps, i, x, m, ls, H, t, hm, hb, hd, ht => muSet_in h (ps := ps) (x := x.2) (m := m) hm hb hd ht
  | .fn _ :: ps, i, x, m, ls, H, t, hm, hb, hd, ht => muSet_in h (ps := ps) (x := x.2) (m := m) hm hb hd ht
  | .mu k :: ps, i, x, m, ls, H, t, hm, hb, hd, ht => by
    obtain ⟨l, off, len, ls', rfl, ⟨mine, full, A, cap, real, m1, m2, m3, m4, m5⟩, hm'⟩ := hm
    obtain ⟨⟨A2, cap2, real2, b1, b2, b3⟩, hb'⟩ := hb
    obtain ⟨d1, d2⟩ := dup_not hd
    by_cases htl : t = l
    · subst htl
      simp only [muSet]
      rw [muSet_out d1]
      simp only [if_true, m1, dif_pos, castL_rfl]
      rw [m5, m2] at b1
      simp only [shiftCO, CO.arr.injEq] at b1
      obtain ⟨c1, c2, c3⟩ := b1
      refine ⟨mine, k, full, A, cap, real, off, len, i, m.1, m1, m2, m3, by rw [b2, c2], rfl, m5, fun b o hA hne q y hy => ?_, fun j' b o hf hj => ?_⟩
      · rw [if_neg hne, hA] at c1
        exact b3 b (o + off * k.sz) c1.symm q y hy
      · rcases hf with ⟨rfl, hf⟩ | hf
        · rw [← m5]
          exact hf
        · have hge := muFp_ge hf
          have := (muFp_obj h hm' hf).2
          simp only [muObj] at hj
          rw [if_neg (by omega)] at hj
          exact absurd (hj ▸ this) d1
    · simp only [muSet]
      simp at ht
      obtain ⟨mine2, k2, full2, A3, cap3, real3, off2, len2, j2, mm, n1, n2, n3, n4, n5, n6, n7, n8⟩ := muSet_in h (H := fun t => if t = l then (match (S.heap l).2 with
        | .arr mine fz k' full => if h : k = k' then ((S.heap l).1, .arr mine fz k' (splice full (castL (k' := .sl k) (k := .sl k') (by rw [h]) m.1) off)) else H t
        | _ => H t) else H t) hm' hb' d2 (by simpa using ht.resolve_left htl)
      refine ⟨mine2, k2, full2, A3, cap3, real3, off2, len2, j2, mm, n1, n2, n3, n4, n5, n6, n7, fun j' b o hf hj => ?_⟩
      rcases hf with ⟨rfl, hf⟩ | hf
      · simp only [muObj, if_true] at hj
        exact absurd hj.symm htl
      · have hge := muFp_ge hf
        simp only [muObj] at hj
        rw [if_neg (by omega)] at hj
        exact n8 j' b o hf hj
end
end Go.Cm
