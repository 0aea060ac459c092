import Derived.Test.YtlnejaehiangnaaGreatDoorCmE
/-! The invariant, and how it goes on. -/
namespace Go.Cm
/-- Package-level variables that are laid, and that nobody writes. -/
def Laid (gl : List (Nat × List Value)) (w : World) (M : Nat → Nat → Prop) : Prop := ∀ p ∈ gl, (∃ e z, w.heap[p.1]? = some (.cells p.2.toArray e z)) ∧ ∀ o, ¬ M p.1 o
structure En where
  P : Program
  gl : List (Nat × List Value)
  w0 : World
  n : Nat
  M0 : Nat → Nat → Prop
  W0 : Nat → Nat → Prop
  hM : ∀ b o, M0 b o → b < w0.heap.size
  hW : ∀ b o, W0 b o → M0 b o
  γ : Nat → CO
  hγ : ∀ l A cap, γ l = .arr A cap 0 → A = none
  lay : Laid gl w0 M0
def isMine : AO → Bool
  | .arr mine _ _ _ => mine
  | _ => true
def R0 (E : En) (H : Nat → Nat × AO) (α : Nat → CO) (w : World) : A0 → Value → Prop := VR0 w (MM E.M0 H α) (MM E.W0 H α) H α
structure Inv (E : En) (S : St) (α : Nat → CO) (a : Act) (w : World) : Prop where
  fr : Fr E.W0 E.w0 w
  dsj : ∀ l l' b o, l ≠ l' → fp (S.heap l).2 (α l) b o → fp (S.heap l').2 (α l') b o → False
  new : ∀ l b o, fp (S.heap l).2 (α l) b o → E.w0.heap.size ≤ b ∨ (E.W0 b o ∧ isMine (S.heap l).2 = false)
  obj : ∀ l, OR w (MM E.M0 S.heap α) (MM E.W0 S.heap α) S.heap α (S.heap l).2 (α l)
  slt : ∀ s, VR (R0 E S.heap α w) (S.env s) (a.tmps.getD s undef)
  dfr : a.defers = []
  siz : a.tmps.size = E.n
  frn : ∀ l, isMine (S.heap l).2 = false → α l = E.γ l
/-- The shape that references lean on. -/
def ShapeLe : AO → CO → AO → CO → Prop
  | .arr _ _ k full, .arr A _ real, .arr _ _ k' full', .arr A' _ real' => k' = k ∧ full'.length = full.length ∧ A' = A ∧ real' = real
  | .vars cs, .vars b, .vars cs', .vars b' => cs'.length = cs.length ∧ b' = b
  | _, _, .no, _ => True
  | _, _, _, _ => False
theorem RefAt.shape {vw : Option (Nat × Nat)} {u : Value} {o o' : AO} {c c' : CO} (hs : ShapeLe o c o' c') (h : RefAt vw u o c) : RefAt vw u o' c' := by
  cases o' with
  | arr mine' fz' k' full' =>
    cases o with
    | arr mine fz k full =>
      cases c <;> cases c' <;> simp only [ShapeLe] at hs
      obtain ⟨rfl, hl, rfl, rfl⟩ := hs
      have hv : vlen full' vw = vlen full vw := by cases vw <;> simp [vlen, hl]
      simpa only [RefAt, hv, hl] using h
    | _ => cases c <;> cases c' <;> simp [ShapeLe] at hs
  | _ => simp [RefAt]
theorem PaAt.shape {i j : Nat} {u : Value} {o o' : AO} {c c' : CO} (hs : ShapeLe o c o' c') (h : PaAt i j u o c) : PaAt i j u o' c' := by
  cases o' with
  | arr mine' fz' k' full' =>
    cases o with
    | arr mine fz k full =>
      cases c <;> cases c' <;> simp only [ShapeLe] at hs
      obtain ⟨rfl, hl, rfl, rfl⟩ := hs
      simpa only [PaAt, hl] using h
    | _ => cases c <;> cases c' <;> simp [ShapeLe] at hs
  | _ => simp [PaAt]
theorem PvAt.shape {j : Nat} {u : Value} {o o' : AO} {c c' : CO} (hs : ShapeLe o c o' c') (h : PvAt j u o c) : PvAt j u o' c' := by
  cases o' with
  | vars cs' =>
    cases o with
    | vars cs =>
      cases c <;> cases c' <;> simp only [ShapeLe] at hs
      obtain ⟨hl, rfl⟩ := hs
      simpa only [PvAt] using h
    | _ => cases c <;> cases c' <;> simp [ShapeLe] at hs
  | _ => simp [PvAt]
/-- Every object's generation goes on, and its shape, as long as its generation stands. -/
def Goes (H : Nat → Nat × AO) (α : Nat → CO) (H' : Nat → Nat × AO) (α' : Nat → CO) : Prop :=
  ∀ l, (H l).1 ≤ (H' l).1 ∧ ((H' l).1 = (H l).1 → ((H' l).2 = (H l).2 ∧ α' l = α l) ∨ ShapeLe (H l).2 (α l) (H' l).2 (α' l))
theorem Goes.refl (H : Nat → Nat × AO) (α : Nat → CO) : Goes H α H α := fun _ => ⟨Nat.le_refl _, fun _ => .inl ⟨rfl, rfl⟩⟩
theorem VR0.mono {w w' : World} {M M' Mb Mb' : Nat → Nat → Prop} {H H' : Nat → Nat × AO} {α α' : Nat → CO} (h1 : Keeps w M w' M') (h2 : Keeps w Mb w' Mb')
    (h3 : Goes H α H' α') : ∀ (a : A0) (u : Value), VR0 w M Mb H α a u → VR0 w' M' Mb' H' α' a u := by
  intro a u h
  have key : ∀ (l g : Nat) (Q : AO → CO → Prop), (∀ {o o' : AO} {c c' : CO}, ShapeLe o c o' c' → Q o c → Q o' c') →
      (g ≤ (H l).1 ∧ ((H l).1 = g → Q (H l).2 (α l))) → (g ≤ (H' l).1 ∧ ((H' l).1 = g → Q (H' l).2 (α' l))) := by
    intro l g Q hQ hh
    obtain ⟨hle, hsh⟩ := h3 l
    refine ⟨Nat.le_trans hh.1 hle, fun hg => ?_⟩
    have he : (H' l).1 = (H l).1 := by omega
    have h0 := hh.2 (by omega)
    rcases hsh he with ⟨e1, e2⟩ | hs
    · rw [e1, e2]; exact h0
    · exact hQ hs h0
  cases a with
  | bot => trivial
  | v x => exact h
  | sl fl k xs =>
    cases fl with
    | true => exact RdC.mono (k := .sl k) h2 h
    | false => exact RdC.mono (k := .sl k) h1 h
  | pt fl k x =>
    cases fl with
    | true => exact RdC.mono (k := .pt k) h2 h
    | false => exact RdC.mono (k := .pt k) h1 h
  | sv fl k xs n =>
    cases fl with
    | true => exact RdC.mono (k := .sv k) (x := (xs, n)) h2 h
    | false => exact RdC.mono (k := .sv k) (x := (xs, n)) h1 h
  | er b => exact h
  | ref l g vw => exact ⟨key l g _ RefAt.shape h.1, h.2⟩
  | pa l g i j => exact ⟨key l g _ PaAt.shape h.1, h.2⟩
  | pv l g j => exact ⟨key l g _ PvAt.shape h.1, h.2⟩
  | row l g i vw => exact h
  | ph l g i => exact h
  | pr l g i e j => exact h
/-- The cells of an object stand in the world. -/
theorem OR.cell {w : World} {M Mb : Nat → Nat → Prop} {H : Nat → Nat × AO} {α : Nat → CO} {o : AO} {c : CO} (h : OR w M Mb H α o c) {b i : Nat} (hf : fp o c b i) : (∃ v, w.cell? ⟨b, i, none⟩ = some v) ∧ w.frozen? ⟨b, i, none⟩ = false := by
  cases o with
  | arr mine fz k full =>
    cases c with
    | arr A cap real =>
      cases fz with
      | true => cases A <;> simp [fp] at hf
      | false =>
        cases A with
        | none => simp [fp] at hf
        | some p =>
          obtain ⟨b', o'⟩ := p
          obtain ⟨rfl, h1, h2⟩ := hf
          have := (h.2.2.2.2 b o' rfl).2 rfl (i - o') (by omega)
          rwa [show o' + (i - o') = i by omega] at this
    | _ => simp [fp] at hf
  | vars cs =>
    cases c with
    | vars b' =>
      obtain ⟨rfl, h1⟩ := hf
      obtain ⟨us, h2, h3⟩ := h
      have hl := h2.length
      have := h3 i (us[i]'(by omega)) (by simp)
      exact ⟨⟨_, this.1⟩, this.2.1⟩
    | _ => simp [fp] at hf
  | no => cases c <;> simp [fp] at hf
  | rows _ _ _ => cases c <;> simp [fp] at hf
/-- An object that nobody touched. -/
theorem OR.mono {w w' : World} {M M' Mb Mb' : Nat → Nat → Prop} {H H' : Nat → Nat × AO} {α α' : Nat → CO} (h1 : Keeps w M w' M') (h2 : Keeps w Mb w' Mb') (h3 : Goes H α H' α')
    {o : AO} {c : CO} (h4 : ∀ b i v, fp o c b i → w.cell? ⟨b, i, none⟩ = some v → w'.cell? ⟨b, i, none⟩ = some v ∧ w'.frozen? ⟨b, i, none⟩ = w.frozen? ⟨b, i, none⟩) (h : OR w M Mb H α o c) : OR w' M' Mb' H' α' o c := by
  cases o with
  | arr mine fz k full =>
    cases c with
    | arr A cap real =>
      obtain ⟨a1, a2, a3, a4, a5⟩ := h
      refine ⟨a1, a2, a3, a4, fun b o hA => ?_⟩
      obtain ⟨b1, b2⟩ := a5 b o hA
      refine ⟨fun i x hx => ?_, fun hz j hj => ?_⟩
      · obtain ⟨es, c1, c2, c3⟩ := b1 i x hx
        refine ⟨es, c1.mono h1, ?_, ?_⟩
        · intro j v hj
          have hlt : j < k.sz := by rw [← c1.len]; exact (List.getElem?_eq_some_iff.1 hj).1
          have hil : i < full.length := (List.getElem?_eq_some_iff.1 hx).1
          cases fz with
          | true => exact (h1 b _ v (c2 j v hj) (c3 rfl j hlt)).1
          | false =>
            refine (h4 b _ v ?_ (c2 j v hj)).1
            subst hA
            refine ⟨rfl, by omega, ?_⟩
            have : (i + 1) * k.sz ≤ cap * k.sz := Nat.mul_le_mul_right _ (by omega)
            rw [Nat.add_mul] at this
            omega
        · intro hz j hj hm
          have hjl : j < es.length := by rw [c1.len]; exact hj
          exact (h1 b _ es[j] (c2 j _ (by simp [hjl])) (c3 hz j hj)).2 hm
      · obtain ⟨⟨v, d1⟩, d2⟩ := b2 hz j hj
        have := h4 b (o + j) v (by subst hA; subst hz; exact ⟨rfl, by omega, by omega⟩) d1
        exact ⟨⟨v, this.1⟩, by rw [this.2]; exact d2⟩
    | _ => exact h
  | vars cs =>
    cases c with
    | vars b =>
      obtain ⟨us, a1, a2⟩ := h
      refine ⟨us, a1.mono (VR0.mono h1 h2 h3), fun j u hj => ?_⟩
      obtain ⟨d1, d2, d3⟩ := a2 j u hj
      have hl := a1.length
      have hjl : j < us.length := (List.getElem?_eq_some_iff.1 hj).1
      have := h4 b j u ⟨rfl, by omega⟩ d1
      exact ⟨this.1, by rw [this.2]; exact d2, d3⟩
    | _ => exact h
  | no => trivial
  | rows _ _ _ => cases c <;> exact h
theorem OR.lt {w : World} {M Mb : Nat → Nat → Prop} {H : Nat → Nat × AO} {α : Nat → CO} {o : AO} {c : CO} (h : OR w M Mb H α o c) {b i : Nat} (hf : fp o c b i) : b < w.heap.size := by
  obtain ⟨⟨v, hv⟩, _⟩ := h.cell hf
  exact World.block_lt_of_cell? _ _ hv
section
variable {E : En} {S : St} {α : Nat → CO} {a : Act} {w : World}
/-- **Objects change, the world with them.** D: those that change. -/
theorem Inv.change (h : Inv E S α a w) (D : Nat → Prop) {H' : Nat → Nat × AO} {α' : Nat → CO} {w' : World}
    (hold : ∀ l, ¬ D l → H' l = S.heap l ∧ α' l = α l)
    (hcell : ∀ b o v, w.cell? ⟨b, o, none⟩ = some v → (∀ l, D l → ¬ fp (S.heap l).2 (α l) b o) → w'.cell? ⟨b, o, none⟩ = some v ∧ w'.frozen? ⟨b, o, none⟩ = w.frozen? ⟨b, o, none⟩)
    (hfr : Fr E.W0 E.w0 w')
    (hfp : ∀ l, D l → ∀ b o, fp (H' l).2 (α' l) b o → fp (S.heap l).2 (α l) b o ∨ w.heap.size ≤ b)
    (hfp2 : ∀ l l' b o, D l → D l' → l ≠ l' → w.heap.size ≤ b → fp (H' l).2 (α' l) b o → fp (H' l').2 (α' l') b o → False)
    (hmine : ∀ l, D l → ∀ b o, fp (H' l).2 (α' l) b o → b < w.heap.size → isMine (S.heap l).2 = false → isMine (H' l).2 = false)
    (hfrn : ∀ l, D l → isMine (H' l).2 = false → α' l = E.γ l)
    (hgo : Goes S.heap α H' α')
    (hor : Keeps w (MM E.M0 S.heap α) w' (MM E.M0 H' α') → Keeps w (MM E.W0 S.heap α) w' (MM E.W0 H' α') →
      ∀ l, D l → OR w' (MM E.M0 H' α') (MM E.W0 H' α') H' α' (H' l).2 (α' l)) :
    Inv E { S with heap := H' } α' a w' ∧ Keeps w (MM E.M0 S.heap α) w' (MM E.M0 H' α') ∧ Keeps w (MM E.W0 S.heap α) w' (MM E.W0 H' α') := by
  have hfrom : ∀ l b o, fp (H' l).2 (α' l) b o → fp (S.heap l).2 (α l) b o ∨ w.heap.size ≤ b := by
    intro l b o hf
    by_cases hD : D l
    · exact hfp l hD b o hf
    · obtain ⟨e1, e2⟩ := hold l hD
      rw [e1, e2] at hf
      exact .inl hf
  have keeps : ∀ U : Nat → Nat → Prop, Keeps w (MM U S.heap α) w' (MM U H' α') := by
    intro U b o v hc hn
    refine ⟨(hcell b o v hc (fun l _ hf => hn (.inr ⟨l, hf⟩))).1, ?_⟩
    rintro (hu | ⟨l, hf⟩)
    · exact hn (.inl hu)
    · rcases hfrom l b o hf with hf | hlt
      · exact hn (.inr ⟨l, hf⟩)
      · have := World.block_lt_of_cell? _ _ hc
        simp at this
        omega
  refine ⟨⟨hfr, ?_, ?_, ?_, ?_, h.dfr, h.siz, ?_⟩, keeps _, keeps _⟩
  · intro l l' b o hne h1 h2
    dsimp only at h1 h2
    by_cases hge : w.heap.size ≤ b
    · by_cases hD : D l
      · by_cases hD' : D l'
        · exact hfp2 l l' b o hD hD' hne hge h1 h2
        · obtain ⟨e1, e2⟩ := hold l' hD'
          rw [e1, e2] at h2
          have := (h.obj l').lt h2
          omega
      · obtain ⟨e1, e2⟩ := hold l hD
        rw [e1, e2] at h1
        have := (h.obj l).lt h1
        omega
    · exact h.dsj l l' b o hne ((hfrom l b o h1).resolve_right hge) ((hfrom l' b o h2).resolve_right hge)
  · intro l b o hf
    dsimp only at hf ⊢
    rcases hfrom l b o hf with hf' | hge
    · rcases h.new l b o hf' with h1 | ⟨h1, h2⟩
      · exact .inl h1
      · refine .inr ⟨h1, ?_⟩
        by_cases hD : D l
        · exact hmine l hD b o hf ((h.obj l).lt hf') h2
        · obtain ⟨e1, e2⟩ := hold l hD
          rw [e1]; exact h2
    · exact .inl (Nat.le_trans h.fr.size hge)
  · intro l
    dsimp only
    by_cases hD : D l
    · exact hor (keeps _) (keeps _) l hD
    · obtain ⟨e1, e2⟩ := hold l hD
      rw [e1, e2]
      refine OR.mono (keeps _) (keeps _) hgo ?_ (h.obj l)
      intro b i v hf hc
      refine hcell b i v hc (fun l' hD' hf' => ?_)
      exact h.dsj l l' b i (fun e => hD (e ▸ hD')) hf hf'
  · intro s
    exact (h.slt s).mono (VR0.mono (keeps _) (keeps _) hgo)
  · intro l hm
    by_cases hD : D l
    · exact hfrn l hD hm
    · obtain ⟨e1, e2⟩ := hold l hD
      rw [e2]
      dsimp only at hm
      rw [e1] at hm
      exact h.frn l hm
theorem act_getD (a : Act) (d : Nat) (u : Value) (s : Nat) : (a.put (some d) u).tmps.getD s undef = if s = d ∧ d < a.tmps.size then u else a.tmps.getD s undef := by
  simp only [Act.put, Array.getD_eq_getD_getElem?, Array.getElem?_setIfInBounds]
  by_cases h : d = s
  · subst h
    by_cases h2 : d < a.tmps.size
    · simp [h2]
    · simp [h2]
  · have h3 : ¬ (s = d) := fun e => h e.symm
    simp [h, h3]
theorem Inv.put (h : Inv E S α a w) {d : Nat} {av : AV} {u : Value} (hd : d < E.n) (hv : VR (R0 E S.heap α w) av u) : Inv E (S.up (.put d av)) α (a.put (some d) u) w := by
  refine ⟨h.fr, h.dsj, h.new, h.obj, fun s => ?_, h.dfr, by simpa [Act.put] using h.siz, h.frn⟩
  rw [act_getD]
  simp only [St.up]
  by_cases hs : s = d
  · subst hs
    simpa [h.siz, hd] using hv
  · have hb : Nat.beq s d = false := by
      cases hq : Nat.beq s d with
      | false => rfl
      | true => exact absurd (Nat.eq_of_beq_eq_true hq) hs
    simpa [hs, hb] using h.slt s
/-- What a slot holds may be forgotten; a slot that is told anew. -/
theorem Inv.env (h : Inv E S α a w) {e' : Nat → AV} (he : ∀ s, VR (R0 E S.heap α w) (e' s) (a.tmps.getD s undef)) : Inv E { S with env := e' } α a w :=
  ⟨h.fr, h.dsj, h.new, h.obj, he, h.dfr, h.siz, h.frn⟩
end
end Go.Cm
