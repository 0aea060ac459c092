import Derived.Test.YtlnejaehiangnaaGreatDoorCmM
/-! Stores; new variables. -/
set_option linter.unusedVariables false
namespace Go.Cm
theorem setCell_like (w : World) (b o : Nat) (v : Value) : Fr (fun b' i => b' = b ∧ i = o) w (w.setCell ⟨b, o, none⟩ v) := by
  refine ⟨rfl, rfl, rfl, by simp [World.setCell], fun b' hb' => ?_⟩
  by_cases hb : b' = b
  · subst hb
    simp only [World.setCell, Array.getElem?_modify, if_true]
    cases hq : w.heap[b']? with
    | none => exact .inl rfl
    | some ob =>
      cases ob with
      | cells cs e z =>
        refine .inr ⟨cs, cs.setIfInBounds o v, e, z, rfl, by simp, by simp, fun i hi => ?_⟩
        have : ¬ o = i := fun e => hi ⟨trivial, e.symm⟩
        simp [this]
      | _ => exact .inl rfl
  · exact .inl (Go.RowKit.Below.heap_setCell _ _ _ _ hb)
theorem Fr.sub {U U' : Nat → Nat → Prop} {w w' : World} (h : Fr U w w') (hu : ∀ b i, U b i → U' b i) : Fr U' w w' := by
  refine ⟨h.os, h.tape, h.output, h.size, fun b hb => ?_⟩
  rcases h.block b hb with h | ⟨cs, cs', e, z, h1, h2, h3, h4⟩
  · exact .inl h
  · exact .inr ⟨cs, cs', e, z, h1, h2, h3, fun i hi => h4 i (fun hq => hi (hu b i hq))⟩
theorem setCells_like (b : Nat) : ∀ (vs : List Value) (o : Nat) (w : World), Fr (fun b' i => b' = b ∧ o ≤ i ∧ i < o + vs.length) w (w.setCells b o vs)
  | [], _, w => Fr.refl _ w
  | v :: r, o, w => by
    have h1 := (setCell_like w b o v).sub (U' := fun b' i => b' = b ∧ o ≤ i ∧ i < o + (v :: r).length) (fun b' i h => ⟨h.1, by omega, by simp; omega⟩)
    have h2 := (setCells_like b r (o + 1) (w.setCell ⟨b, o, none⟩ v)).sub (U' := fun b' i => b' = b ∧ o ≤ i ∧ i < o + (v :: r).length) (fun b' i h => ⟨h.1, by omega, by simp; omega⟩)
    exact h1.trans h2
theorem splice_length {α : Type} (xs ys : List α) (j : Nat) (h : j + ys.length ≤ xs.length) : (splice xs ys j).length = xs.length := by
  simp [splice]; omega
theorem splice_get {α : Type} (xs ys : List α) (j i : Nat) (h : j + ys.length ≤ xs.length) : (splice xs ys j)[i]? = if j ≤ i ∧ i < j + ys.length then ys[i - j]? else xs[i]? := by
  simp only [splice, List.append_assoc]
  rw [List.getElem?_append]
  simp only [List.length_take]
  by_cases h1 : i < j
  · rw [if_pos (by omega), if_neg (by omega), List.getElem?_take, if_pos h1]
  · rw [if_neg (by omega), List.getElem?_append]
    have hm : min j xs.length = j := by omega
    rw [hm]
    by_cases h2 : i - j < ys.length
    · rw [if_pos h2, if_pos (by omega)]
    · rw [if_neg h2, if_neg (by omega), List.getElem?_drop]
      congr 1
      omega
theorem Al.splice {α β : Type} {R : α → β → Prop} {xs xs' : List α} {ys ys' : List β} (h : Al R xs ys) (h' : Al R xs' ys') (j : Nat) : Al R (splice xs xs' j) (splice ys ys' j) := by
  unfold Go.Cm.splice
  rw [h'.length]
  exact ((h.take j).append h').append (h.drop _)
/-- Written cells. -/
theorem setCells_get (w : World) (b o : Nat) (vs : List Value) (hc : ∀ j, j < vs.length → (w.cell? ⟨b, o + j, none⟩).isSome = true) {j : Nat} {v : Value} (hv : vs[j]? = some v) : (w.setCells b o vs).cell? ⟨b, o + j, none⟩ = some v := by
  obtain ⟨hj, rfl⟩ := List.getElem?_eq_some_iff.1 hv
  exact World.cell?_setCells_in b vs o w hc j hj
theorem setCells_out (w : World) (b o : Nat) (vs : List Value) {b' i : Nat} (h : ¬ (b' = b ∧ o ≤ i ∧ i < o + vs.length)) : (w.setCells b o vs).cell? ⟨b', i, none⟩ = w.cell? ⟨b', i, none⟩ := by
  refine World.cell?_setCells_out b vs o w _ (fun h1 _ => ?_)
  simp at h1 ⊢
  omega
theorem okCells_one {R : A0 → Value → Prop} (hR : ∀ c u, R c u → okC c = true → u.oneCell' = true) {cs : List A0} {us : List Value} (h : Al R cs us) (ho : okCells cs = true) : ∀ u ∈ us, u.oneCell' = true := by
  induction h with
  | nil => simp
  | cons h t ih =>
    simp only [okCells, List.all_cons, Bool.and_eq_true] at ho
    intro u hu
    rcases List.mem_cons.1 hu with rfl | hu
    · exact hR _ _ h ho.1
    · exact ih ho.2 u hu
section
variable {cx : Cx} {E : En} {S : St} {α : Nat → CO} {a : Act} {w : World} {o : Oper} {us : List Up}
theorem r0_one (c : A0) (u : Value) (h : R0 E S.heap α w c u) (hc : okC c = true) : u.oneCell' = true := by
  cases c with
  | bot => simp [okC] at hc
  | v x => rw [show u = x from h]; exact hc
  | sl fl k xs => exact RdC.one (k := .sl k) h u (by simp)
  | pt fl k x => exact RdC.one (k := .pt k) h u (by simp)
  | sv fl k xs n => exact RdC.one (k := .sv k) (x := (xs, n)) h u (by simp)
  | er b => exact RdC.one (w := w) (M := MM E.M0 S.heap α) (k := .er) h u (by simp)
  | ref l g vw => exact h.2
  | pa l g i j => exact h.2
  | pv l g j => exact h.2
  | row l g i vw => exact h.elim
  | ph l g i => exact h.elim
  | pr l g i e j => exact h.elim
theorem okc (h : Inv E S α a w) {cs : List A0} {vs : List Value} (hv : Al (R0 E S.heap α w) cs vs) (ho : okCells cs = true) : ∀ u ∈ vs, u.oneCell' = true := okCells_one r0_one hv ho
theorem cellsOf_al {v : AV} {u : Value} (hv : VR (R0 E S.heap α w) v u) (hl : (cellsOf v).length ≠ 0) : ∃ ag vs, v = .one ag (cellsOf v) ∧ u = enc ag vs ∧ Al (R0 E S.heap α w) (cellsOf v) vs ∧ (ag = false → vs.length = 1) := by
  cases v with
  | one ag cs =>
    obtain ⟨vs, h1, h2, h3⟩ := hv
    exact ⟨ag, vs, rfl, h1, h2, fun hg => by rw [← h2.length]; exact h3 hg⟩
  | tup xs => simp [cellsOf] at hl
/-- The frame of cells that are one's own. -/
theorem own_fr (h : Inv E S α a w) {l b j : Nat} {vs : List Value} (hf : ∀ i, i < vs.length → fp (S.heap l).2 (α l) b (j + i)) : Fr E.W0 E.w0 (w.setCells b j vs) := by
  refine Fr.weaken (setCells_like b vs j w) h.fr.size ?_ h.fr
  rintro b' i hb ⟨rfl, h1, h2⟩
  have := hf (i - j) (by omega)
  rw [show j + (i - j) = i by omega] at this
  rcases h.new l _ _ this with h3 | ⟨h3, _⟩
  · omega
  · exact h3
/-- A datum is laid in a row's element. -/
theorem store_pa (h : Inv E S α a w) {l g i j : Nat} {mine : Bool} {k : Kd} {full : List k.Ty} {x : k.Ty} {vs es : List Value} {xo : Operand} {A : Option (Nat × Nat)} {cap real b oo n : Nat}
    (hob : (S.heap l).2 = .arr mine false k full) (hg : (S.heap l).1 = g) (hα : α l = .arr A cap real) (hi : i < full.length) (hA : A = some (b, oo)) (hx : a.eval xo = .pointer (some ⟨b, oo + i * k.sz + j, none⟩))
    (hnew : RdC w (MM E.M0 S.heap α) k (splice es vs j) x) (hel : es.length = k.sz) (q2 : Cells0 w b (oo + i * k.sz) es) (hvl : vs.length = n) (hj : j + n ≤ k.sz)
    (hput : ∀ u, a.put o.dst u = a)
    (hgo : ∀ b j, a.eval xo = .pointer (some ⟨b, j, none⟩) → (∀ u ∈ vs, u.oneCell' = true) → (∀ i, i < vs.length → (w.cell? ⟨b, j + i, none⟩).isSome = true) → (∀ i, i < vs.length → w.frozen? ⟨b, j + i, none⟩ = false) →
      (execOp a.eval o).run E.P w = .ok .skip (w.setCells b j vs)) : Does E S a w o [.set l g (.arr mine false k (full.set i x))] := by
    have hor := h.obj l
    rw [hob, hα] at hor
    obtain ⟨c1, c2, c3, c4, c5⟩ := hor
    obtain ⟨c6, c7⟩ := c5 b oo hA
    have hspl : (splice es vs j).length = k.sz := by rw [splice_length _ _ _ (by omega)]; exact hel
    have hcap : (i + 1) * k.sz ≤ cap * k.sz := Nat.mul_le_mul_right _ (by omega)
    rw [Nat.add_mul, Nat.one_mul] at hcap
    have hone : ∀ u ∈ vs, u.oneCell' = true := fun u hu => RdC.one hnew u (by
      unfold splice
      simp [hu])
    have hin : ∀ q, q < vs.length → (∃ v, w.cell? ⟨b, oo + i * k.sz + j + q, none⟩ = some v) ∧ w.frozen? ⟨b, oo + i * k.sz + j + q, none⟩ = false := by
      intro q hq
      have := c7 rfl (i * k.sz + j + q) (by omega)
      rwa [show oo + (i * k.sz + j + q) = oo + i * k.sz + j + q by omega] at this
    have hfp : ∀ q, q < vs.length → fp (S.heap l).2 (α l) b (oo + i * k.sz + j + q) := fun q hq => by
      rw [hob, hα, hA]
      exact ⟨rfl, by omega, by omega⟩
    have hrun := hgo b _ hx hone (fun q hq => by obtain ⟨⟨v, hv⟩, _⟩ := hin q hq; rw [hv]; rfl) (fun q hq => (hin q hq).2)
    refine Does.skip (α' := fun m => if m = l then .arr A cap real else α m) hrun ?_
    rw [hput]
    refine h.one l g (.arr mine false k (full.set i x)) (.arr A cap real) ?_ (own_fr h hfp) ?_ ?_ (fun hm => by rw [← hα]; exact h.frn l (by rw [hob]; exact hm)) (by omega) (fun _ => ?_) ?_
    · intro b' i' v' hc hn
      refine ⟨?_, World.frozen?_setCells _ _ _ _ _⟩
      rw [setCells_out]
      · exact hc
      · rintro ⟨rfl, w1, w2⟩
        have := hfp (i' - (oo + i * k.sz + j)) (by omega)
        rw [show oo + i * k.sz + j + (i' - (oo + i * k.sz + j)) = i' by omega] at this
        exact hn this
    · intro b' i' hf'
      left
      rw [hob, hα]
      rw [hA] at hf' ⊢
      exact hf'
    · intro b' i' _ _ hm
      rw [hob] at hm
      exact hm
    · rw [hob, hα]
      exact ⟨rfl, by simp, rfl, rfl⟩
    · intro M' Mb' H' α' k1 k2 hgo'
      refine ⟨by simpa using c1, c2, c3, c4, fun b' o' hA' => ⟨fun i' x' hx' => ?_, fun _ q hq => ?_⟩⟩
      · rw [hA] at hA'
        cases hA'
        by_cases hii : i' = i
        · subst hii
          rw [List.getElem?_set_self hi] at hx'
          cases hx'
          refine ⟨splice es vs j, hnew.mono k1, fun q v hv => ?_, fun hz => by cases hz⟩
          rw [splice_get _ _ _ _ (by omega)] at hv
          split at hv
          · rename_i hr
            have := setCells_get w b (oo + i' * k.sz + j) vs (fun q hq => by obtain ⟨⟨v, hv⟩, _⟩ := hin q hq; rw [hv]; rfl) hv
            rwa [show oo + i' * k.sz + j + (q - j) = oo + i' * k.sz + q by omega] at this
          · rename_i hr
            rw [setCells_out _ _ _ _ (fun hq => hr ⟨by omega, by omega⟩)]
            exact q2 q v hv
        · rw [List.getElem?_set_ne (Ne.symm hii)] at hx'
          obtain ⟨es', s1, s2, s3⟩ := c6 i' x' hx'
          refine ⟨es', s1.mono k1, fun q v hv => ?_, fun hz => by cases hz⟩
          have hq : q < k.sz := by rw [← s1.len]; exact (List.getElem?_eq_some_iff.1 hv).1
          rw [setCells_out]
          · exact s2 q v hv
          · rintro ⟨_, w1, w2⟩
            rcases Nat.lt_or_gt_of_ne hii with hlt | hgt
            · have : (i' + 1) * k.sz ≤ i * k.sz := Nat.mul_le_mul_right _ (by omega)
              rw [Nat.add_mul, Nat.one_mul] at this
              omega
            · have : (i + 1) * k.sz ≤ i' * k.sz := Nat.mul_le_mul_right _ (by omega)
              rw [Nat.add_mul, Nat.one_mul] at this
              omega
      · rw [hA] at hA'
        cases hA'
        obtain ⟨⟨v, s1⟩, s2⟩ := c7 rfl q hq
        refine ⟨?_, by rw [World.frozen?_setCells]; exact s2⟩
        exact (setCells_like b vs (oo + i * k.sz + j) w).some s1
theorem step_store (ht : TdsOk cx E.P) (h : Inv E S α a w) {t : Nat} {x y : Operand} (ho : o.op = .store t x y) (hdst : o.dst = none)
    (hs : ((opnd x).bind fun va => (opnd y).bind fun vx => sg va fun a => sStore cx t a vx).ev S = some us) : Does E S a w o us := by
  obtain ⟨va, h1, h2⟩ := bind_ev hs
  obtain ⟨vx, h3, h4⟩ := bind_ev h2
  obtain ⟨c, rfl, h5⟩ := sg_ev h4
  have e1 := opnd_c h h1
  have e2 := opnd_sound h h3
  unfold sStore at h5
  obtain ⟨d, hf, h6⟩ := tdOf_ev h5
  clear hs h2 h4 h5
  split at h6
  case isFalse => exact (fail_ev h6).elim
  rename_i hlen
  have hpos := Kd.sz_pos d.k
  obtain ⟨ag, vs, hv1, hv2, hv3, hv4⟩ := cellsOf_al e2 (by omega)
  have hvl : vs.length = d.k.sz := by rw [← hv3.length, hlen]
  have hput : ∀ u, a.put o.dst u = a := fun u => by rw [hdst]; rfl
  have hgo : ∀ b j, a.eval x = .pointer (some ⟨b, j, none⟩) → (∀ u ∈ vs, u.oneCell' = true) → (∀ i, i < vs.length → (w.cell? ⟨b, j + i, none⟩).isSome = true) → (∀ i, i < vs.length → w.frozen? ⟨b, j + i, none⟩ = false) →
      (execOp a.eval o).run E.P w = .ok .skip (w.setCells b j vs) := by
    intro b j hx h1 h2 h3
    have := run_storeVar (ht t d hf) hv2 hvl hv4 h1 h2 h3
    simp [execOp, ho, hx, Instr.storeAt, Instr.sureAddr, this]
  cases c <;> try exact (fail_ev h6).elim
  case pv l g j =>
    simp only [Cm.ev] at h6
    split at h6
    case isFalse => exact (fail_ev h6).elim
    rename_i hg
    split at h6
    case h_2 => exact (fail_ev h6).elim
    rename_i cs hob
    split at h6
    case isFalse => exact (fail_ev h6).elim
    rename_i hj
    obtain ⟨hj, hok⟩ := hj
    have hor := h.obj l
    have hp := e1.1.2 hg
    obtain ⟨b, hα⟩ := vars_co h hob
    rw [hob, hα] at hor hp
    obtain ⟨ws, w1, w2⟩ := hor
    have hwl := w1.length
    have hone := okc h hv3 hok
    have hin : ∀ i, i < vs.length → w.cell? ⟨b, j + i, none⟩ = ws[j + i]? ∧ (w.cell? ⟨b, j + i, none⟩).isSome = true ∧ w.frozen? ⟨b, j + i, none⟩ = false := by
      intro i hi
      have hlt : j + i < ws.length := by omega
      obtain ⟨q1, q2, q3⟩ := w2 (j + i) ws[j + i] (by simp [hlt])
      exact ⟨by rw [q1]; simp [hlt], by rw [q1]; rfl, q2⟩
    have hrun := hgo b j hp hone (fun i hi => (hin i hi).2.1) (fun i hi => (hin i hi).2.2)
    have hfp : ∀ i, i < vs.length → fp (S.heap l).2 (α l) b (j + i) := fun i hi => by
      rw [hob, hα]
      exact ⟨rfl, by omega⟩
    rw [← ret_ev h6]
    refine Does.skip (α' := fun m => if m = l then .vars b else α m) hrun ?_
    rw [hput]
    refine h.one l g (.vars (splice cs (cellsOf vx) j)) (.vars b) ?_ (own_fr h hfp) ?_ ?_ (fun hm => by cases hm) (by omega) (fun _ => ?_) ?_
    · intro b' i' v' hc hn
      refine ⟨?_, World.frozen?_setCells _ _ _ _ _⟩
      rw [setCells_out]
      · exact hc
      · rintro ⟨rfl, q1, q2⟩
        have := hfp (i' - j) (by omega)
        rw [show j + (i' - j) = i' by omega] at this
        exact hn this
    · intro b' i' hf'
      left
      rw [hob, hα]
      obtain ⟨rfl, hf'⟩ := hf'
      rw [splice_length _ _ _ (by omega)] at hf'
      exact ⟨rfl, hf'⟩
    · intro b' i' _ _ hm
      rw [hob] at hm
      cases hm
    · rw [hob, hα]
      exact ⟨splice_length _ _ _ (by omega), rfl⟩
    · intro M' Mb' H' α' k1 k2 hgo'
      refine ⟨splice ws vs j, (w1.mono (VR0.mono k1 k2 hgo')).splice (hv3.mono (VR0.mono k1 k2 hgo')) j, fun i u hi => ?_⟩
      rw [splice_get _ _ _ _ (by omega)] at hi
      split at hi
      · rename_i hr
        have := setCells_get w b j vs (fun i hi => (hin i hi).2.1) hi
        rw [show j + (i - j) = i by omega] at this
        refine ⟨this, ?_, hone u (List.mem_of_getElem? hi)⟩
        rw [World.frozen?_setCells]
        have := (hin (i - j) (by omega)).2.2
        rwa [show j + (i - j) = i by omega] at this
      · rename_i hr
        obtain ⟨q1, q2, q3⟩ := w2 i u hi
        refine ⟨?_, by rw [World.frozen?_setCells]; exact q2, q3⟩
        rw [setCells_out _ _ _ _ (fun hq => hr hq.2)]
        exact q1
  case pa l g i j =>
    simp only [Cm.ev] at h6
    split at h6
    case isFalse => exact (fail_ev h6).elim
    rename_i hg
    split at h6
    case h_2 => exact (fail_ev h6).elim
    rename_i mine k full hob
    split at h6
    case isFalse => exact (fail_ev h6).elim
    rename_i hj
    obtain ⟨p, hp1, hp2⟩ := bind_ev h6
    split at hp2
    · exact (fail_ev hp2).elim
    rename_i hfr
    obtain ⟨fs, hfs, hp3⟩ := bind_ev hp2
    rw [← ret_ev hp3]
    have hor := h.obj l
    have hp := e1.1.2 hg
    obtain ⟨A, cap, real, hα⟩ := arr_co h hob
    rw [hob, hα] at hor hp
    obtain ⟨hi, b, oo, hA, hx⟩ := hp
    obtain ⟨c1, c2, c3, c4, c5⟩ := hor
    obtain ⟨c6, c7⟩ := c5 b oo hA
    have hget : full[i]? = some (full.getD i k.dflt) := by simp [hi]
    obtain ⟨es, q1, q2, q3⟩ := c6 i _ hget
    have hel := q1.len
    have hal : Al (R0 E S.heap α w) (unpack false k (full.getD i k.dflt)) es := unpack_rd (fl := false) (x := full.getD i k.dflt) q1
    obtain ⟨⟨u1, u2, r1, r2, r3, r4⟩, r5, r6⟩ := pack_sound h k false _ _ p hp1 (hal.splice hv3 j)
    have hspl : (splice es vs j).length = k.sz := by rw [splice_length _ _ _ (by omega)]; exact hel
    have hu2 : u2 = [] := by
      have := congrArg List.length r1
      rw [hspl, List.length_append, r2] at this
      exact List.eq_nil_of_length_eq_zero (by omega)
    subst hu2
    rw [List.append_nil] at r1
    obtain ⟨av1, av2⟩ := frz_avoid h r5 E.M0 (fun _ _ h => h)
    have hl : l ∉ p.fr := fun hm => hfr (List.any_eq_true.2 ⟨l, hm, by rw [beq_iff]; simp⟩)
    have hnew : RdC w (MM E.M0 (frz p.fr S.heap) α) k (splice es vs j) p.x := by
      rw [r1]
      refine r4 _ av1 (fun l' hl' => ?_)
      rw [r6 rfl] at hl'
      rcases hl' with hl' | hl'
      · exact av2 l' hl'
      · simp at hl'
    have hS : S.ups (fs ++ [.set l g (.arr mine false k (full.set i p.x))]) = ({ S with heap := frz p.fr S.heap } : St).ups [.set l g (.arr mine false k (full.set i p.x))] := by
      rw [ups_append, freezes_ups hfs]
      rfl
    have hd2 := store_pa (o := o) (a := a) (h := frz_inv h r5) (l := l) (g := g) (i := i) (j := j) (mine := mine) (full := full) (x := p.x) (vs := vs) (es := es) (xo := x) (by simp only [frz, hl, if_false]; exact hob) (by simp only [frz, hl, if_false]; exact hg) hα hi hA hx hnew hel q2 hvl (by omega) hput hgo
    intro next Q hn
    refine hd2 next Q (fun α' a' w' hi' => hn α' a' w' ?_)
    rw [hS]
    exact hi'
end
end Go.Cm
