import Derived.Test.YtlnejaehiangnaaGreatDoorCmT
/-! Calls: what is handed over. -/
set_option linter.unusedVariables false
namespace Go.Cm
def shiftCO (sz : Nat) (c : CO) (off len : Nat) : CO := match c with
  | .arr A _ real => .arr (if real - off = 0 then none else A.map fun p => (p.1, p.2 + off * sz)) len (real - off)
  | c => c
def gam (α : Nat → CO) : (i : Nat) → List PK → List (Nat × Nat × Nat) → Nat → CO
  | i, .mu k :: ps, (l, off, len) :: ls, j => if j = i then shiftCO k.sz (α l) off len else gam α (i + 1) ps ls j
  | _, .mu _ :: _, [], _ => .no
  | i, .ro _ :: ps, ls, j => gam α (i + 1) ps ls j
  | i, .bo _ :: ps, ls, j => gam α (i + 1) ps ls j
  | i, .fn _ :: ps, ls, j => gam α (i + 1) ps ls j
  | _, [], _, _ => .no
/-- The rows that are handed over: objects, and where they lie. -/
def MuOk (S : St) (α γ : Nat → CO) : (i : Nat) → (ps : List PK) → PTy ps → List (Nat × Nat × Nat) → Prop
  | _, [], _, ls => ls = []
  | i, .mu k :: ps, x, ls => ∃ l off len ls', ls = (l, off, len) :: ls' ∧ (∃ mine full A cap real, (S.heap l).2 = .arr mine false k full ∧ α l = .arr A cap real ∧ off + len ≤ full.length ∧ List.length x.1 = len ∧ γ i = shiftCO k.sz (α l) off len) ∧ MuOk S α γ (i + 1) ps x.2 ls'
  | i, .ro _ :: ps, x, ls => MuOk S α γ (i + 1) ps x.2 ls
  | i, .bo _ :: ps, x, ls => MuOk S α γ (i + 1) ps x.2 ls
  | i, .fn _ :: ps, x, ls => MuOk S α γ (i + 1) ps x.2 ls
theorem fnOf_eq {v : AV} {f : Nat} (h : fnOf v = some f) : v = .one false [.v (.func (.func f) #[] #[])] := by
  unfold fnOf at h
  split at h
  · rename_i g x y
    split at h
    · rename_i hc
      obtain ⟨h1, h2⟩ := hc
      cases h
      have e1 : x = #[] := Array.eq_empty_of_size_eq_zero h1
      have e2 : y = #[] := Array.eq_empty_of_size_eq_zero h2
      rw [e1, e2]
    · cases h
  · cases h
section
variable {cx : Cx} {E : En} {S : St} {α : Nat → CO} {a : Act} {w : World} {o : Oper} {us : List Up}
/-- What is handed over. -/
theorem pass_sound (h : Inv E S α a w) : ∀ (ps : List PK) (i : Nat) (vs : List AV) (us : List Value) (q : Pa (PTy ps)) (γ : Nat → CO), (pass ps vs).ev S = some q → fits ps vs = true → Al (VR (R0 E S.heap α w)) vs us →
    (∀ j, i ≤ j → γ j = gam α i ps q.mu j) →
    MuOk S α γ i ps q.x q.mu ∧ (∀ l ∈ q.fr, ∃ k full, (S.heap l).2 = .arr true false k full) ∧
    ∀ (M1 W1 : Nat → Nat → Prop), (∀ b o, M1 b o → MM E.M0 S.heap α b o) → (∀ l ∈ q.fr, ∀ b o, M1 b o → ¬ fp (S.heap l).2 (α l) b o) →
      (∀ b o, W1 b o → MM E.W0 S.heap α b o) → (∀ l, l ∈ q.fr ∨ l ∈ q.bo → ∀ b o, W1 b o → ¬ fp (S.heap l).2 (α l) b o) → (∀ j b o, muFp γ i ps j b o → W1 b o) → (∀ l ∈ q.mu.map (·.1), ∀ l' ∈ q.fr, l ≠ l') →
      ArgsRel w M1 W1 γ i ps q.x us := by
  intro ps
  induction ps with
  | nil =>
    intro i vs us q γ hp _ hv _
    cases vs with
    | nil =>
      rw [← ret_ev hp]
      cases hv
      exact ⟨rfl, by simp, fun _ _ _ _ _ _ _ _ => rfl⟩
    | cons v vs => exact (fail_ev hp).elim
  | cons p ps ih =>
    intro i vs us q γ hp hfit hv hγ
    cases vs with
    | nil => cases p <;> exact (fail_ev hp).elim
    | cons v vs =>
      cases hv with
      | @cons _ u _ us' hv0 hv1 =>
      cases p with
      | ro k =>
        cases v with
        | tup xs => exact (fail_ev hp).elim
        | one ag cs =>
          simp only [pass] at hp
          split at hp
          case isFalse => exact (fail_ev hp).elim
          rename_i hag
          obtain ⟨p1, h1, h2⟩ := bind_ev hp
          split at h2
          case h_2 => exact (fail_ev h2).elim
          rename_i hrest
          obtain ⟨q2, h3, h4⟩ := bind_ev h2
          have hq := ret_ev h4
          subst hq
          obtain ⟨ws, w1, w2, w3⟩ := hv0
          obtain ⟨⟨u1, u2, r1, r2, r3, r4⟩, r5, r6⟩ := pack_sound h k false _ _ p1 h1 w2
          rw [hrest] at r3
          cases r3
          rw [List.append_nil] at r1
          subst r1
          obtain ⟨s1, s2, s3⟩ := ih (i + 1) vs us' q2 γ h3 (by simpa [fits] using hfit) hv1 (fun j hj => by rw [hγ j (by omega)]; rfl)
          refine ⟨s1, fun l hl => ?_, fun M1 W1 m1 m2 m3 m4 m5 m6 => ?_⟩
          · rcases List.mem_append.1 hl with hl | hl
            · exact r5 l hl
            · exact s2 l hl
          · refine ⟨u, us', rfl, ⟨_, by rw [← hag]; exact w1, r4 M1 m1 (fun l hl => ?_)⟩, s3 M1 W1 m1 (fun l hl => m2 l (by simp [hl])) m3 (fun l hl => m4 l (by rcases hl with hl | hl <;> simp [hl])) m5 (fun l hl l' hl' => m6 l hl l' (by simp [hl']))⟩
            rcases hl with hl | hl
            · exact m2 l (by simp [hl])
            · rw [r6 rfl] at hl
              simp at hl
      | bo k =>
        cases v with
        | tup xs => exact (fail_ev hp).elim
        | one ag cs =>
          simp only [pass] at hp
          split at hp
          case isFalse => exact (fail_ev hp).elim
          rename_i hag
          obtain ⟨p1, h1, h2⟩ := bind_ev hp
          split at h2
          case h_2 => exact (fail_ev h2).elim
          rename_i hrest
          obtain ⟨q2, h3, h4⟩ := bind_ev h2
          have hq := ret_ev h4
          subst hq
          obtain ⟨ws, w1, w2, w3⟩ := hv0
          obtain ⟨⟨u1, u2, r1, r2, r3, r4⟩, r5, r6⟩ := pack_sound h k true _ _ p1 h1 w2
          rw [hrest] at r3
          cases r3
          rw [List.append_nil] at r1
          subst r1
          obtain ⟨s1, s2, s3⟩ := ih (i + 1) vs us' q2 γ h3 (by simpa [fits] using hfit) hv1 (fun j hj => by rw [hγ j (by omega)]; rfl)
          refine ⟨s1, fun l hl => ?_, fun M1 W1 m1 m2 m3 m4 m5 m6 => ?_⟩
          · rcases List.mem_append.1 hl with hl | hl
            · exact r5 l hl
            · exact s2 l hl
          · refine ⟨u, us', rfl, ⟨_, by rw [← hag]; exact w1, r4 W1 m3 (fun l hl => m4 l ?_)⟩, s3 M1 W1 m1 (fun l hl => m2 l (by simp [hl])) m3 (fun l hl => m4 l (by rcases hl with hl | hl <;> simp [hl])) m5 (fun l hl l' hl' => m6 l hl l' (by simp [hl']))⟩
            rcases hl with hl | hl <;> simp [hl]
      | fn f =>
        simp only [pass] at hp
        obtain ⟨q2, h3, h4⟩ := bind_ev hp
        have hq := ret_ev h4
        subst hq
        have hf : v = .one false [.v (.func (.func f) #[] #[])] ∧ fits ps vs = true := by
          simp only [fits, Bool.and_eq_true] at hfit
          refine ⟨?_, hfit.2⟩
          have h1 := hfit.1
          split at h1
          · rename_i g hg
            rw [Nat.eq_of_beq_eq_true h1]
            exact fnOf_eq hg
          · cases h1
        obtain ⟨rfl, hfit'⟩ := hf
        obtain ⟨s1, s2, s3⟩ := ih (i + 1) vs us' q2 γ h3 hfit' hv1 (fun j hj => by rw [hγ j (by omega)]; rfl)
        exact ⟨s1, s2, fun M1 W1 m1 m2 m3 m4 m5 m6 => ⟨u, us', rfl, vr_c0_inv hv0, s3 M1 W1 m1 m2 m3 m4 m5 m6⟩⟩
      | mu k =>
        cases v with
        | tup xs => exact (fail_ev hp).elim
        | one ag cs =>
          cases ag with
          | true => cases cs <;> exact (fail_ev hp).elim
          | false =>
            match cs with
            | [] => exact (fail_ev hp).elim
            | _ :: _ :: _ => rename_i c1 c2 c3; cases c1 <;> exact (fail_ev hp).elim
            | [c] =>
              cases c <;> try exact (fail_ev hp).elim
              rename_i l g vw
              simp only [pass, Cm.ev] at hp
              split at hp
              case isFalse => exact (fail_ev hp).elim
              rename_i hg
              split at hp
              case h_2 => exact (fail_ev hp).elim
              rename_i mine k' full hob
              split at hp
              case isFalse => exact (fail_ev hp).elim
              rename_i hk
              subst hk
              obtain ⟨q2, h3, h4⟩ := bind_ev hp
              have hq := ret_ev h4
              subst hq
              simp only [castL_rfl] at hγ ⊢
              have hr := vr_c0_inv hv0
              have hp' := hr.1.2 hg
              have hor := h.obj l
              obtain ⟨A, cap, real, hα⟩ := arr_co h hob
              rw [hob, hα] at hp' hor
              obtain ⟨g1, A', rfl, g3, g4⟩ := hp'
              obtain ⟨c1, c2, c3, c4, c5⟩ := hor
              have hlen := look_length full vw g1
              obtain ⟨s1, s2, s3⟩ := ih (i + 1) vs us' q2 γ h3 (by simpa [fits] using hfit) hv1 (fun j hj => by
                rw [hγ j (by omega)]
                show (if j = i then _ else _) = _
                rw [if_neg (by omega)])
              have hγi : γ i = shiftCO k'.sz (α l) (voff vw) (vlen full vw) := by
                rw [hγ i (Nat.le_refl _)]
                show (if i = i then _ else _) = _
                rw [if_pos rfl]
              refine ⟨⟨l, voff vw, vlen full vw, q2.mu, rfl, ⟨mine, full, A, cap, real, hob, hα, g1, hlen, hγi⟩, s1⟩, s2, fun M1 W1 m1 m2 m3 m4 m5 m6 => ?_⟩
              refine ⟨_, us', rfl, ?_, s3 M1 W1 m1 m2 m3 m4 (fun j b o hj => m5 j b o (.inr hj)) (fun l1 hl1 => m6 l1 (by simp at hl1 ⊢; exact .inr hl1))⟩
              have hγ2 : γ i = .arr (if real - voff vw = 0 then none else A.map fun p => (p.1, p.2 + voff vw * k'.sz)) (vlen full vw) (real - voff vw) := by rw [hγi, hα]; rfl
              refine ⟨_, _, by rw [hlen]; exact hγ2, ?_, by rw [hlen]; exact g3, ?_, fun b o hA => ?_⟩
              · rw [hlen]
                refine ⟨A', rfl, g3, fun hc => ?_⟩
                obtain ⟨b, oo, hA, hA'⟩ := g4 hc
                rw [if_neg (by omega), hA]
                exact ⟨b, oo + voff vw * k'.sz, rfl, by rw [hA']; rfl⟩
              · refine ⟨fun hA => ?_, fun h0 => by rw [if_pos h0]⟩
                split at hA
                · assumption
                · rename_i hne
                  obtain ⟨b, oo, hA2, _⟩ := g4 (by omega)
                  rw [hA2] at hA
                  cases hA
              · split at hA
                · cases hA
                rename_i hne
                obtain ⟨b2, oo, hA2, _⟩ := g4 (by omega)
                rw [hA2] at hA
                cases hA
                obtain ⟨c6, c7⟩ := c5 b2 oo hA2
                refine ⟨fun q x hx => ?_, fun j hj => ?_⟩
                · obtain ⟨hx1, hx2⟩ := look_get full vw hx
                  obtain ⟨es, e1, e2, _⟩ := c6 _ x hx1
                  refine ⟨es, e1.mono (Keeps.less m1), ?_⟩
                  rwa [Nat.add_mul, ← Nat.add_assoc] at e2
                · rw [hlen] at hj
                  have hmul : (voff vw + vlen full vw) * k'.sz ≤ cap * k'.sz := Nat.mul_le_mul_right _ (by omega)
                  rw [Nat.add_mul] at hmul
                  refine ⟨m5 i _ _ (.inl ⟨rfl, ?_⟩), ?_⟩
                  · rw [hγ2, if_neg hne, hA2]
                    exact ⟨rfl, by omega, by omega⟩
                  · have := c7 rfl (voff vw * k'.sz + j) (by omega)
                    rwa [← Nat.add_assoc] at this
end
end Go.Cm
