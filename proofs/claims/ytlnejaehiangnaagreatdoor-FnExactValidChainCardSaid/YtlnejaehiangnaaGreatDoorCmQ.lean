import Derived.Test.YtlnejaehiangnaaGreatDoorCmP
/-! Rows that are written out; append; copy. -/
set_option linter.unusedVariables false
namespace Go.Cm
section
variable {cx : Cx} {E : En} {S : St} {α : Nat → CO} {a : Act} {w : World} {o : Oper} {us : List Up}
theorem packs_sound (h : Inv E S α a w) (k : Kd) : ∀ {vs : List (Nat × AV)} {ps : List (Nat × Operand)} (m : Nat) {p : Pk (List k.Ty)}, Al (fun (v : Nat × AV) (p : Nat × Operand) => v.1 = p.1 ∧ VR (R0 E S.heap α w) v.2 (a.eval p.2)) vs ps →
    (packs k vs m).ev S = some p →
    ∃ uss : List (List Value), uss.length = vs.length ∧ (∀ us ∈ uss, us.length = k.sz ∧ ∀ u ∈ us, u.oneCell' = true) ∧
      Al (fun (q : Nat × Value) (r : Nat × List Value) => q.1 = r.1 ∧ q.2.cells = r.2.toArray) (ps.map fun (i, x) => (i, a.eval x)) ((uss.zipIdx m).map fun p => (p.2, p.1)) ∧
      (∀ U : Nat → Nat → Prop, (∀ b o, U b o → MM E.M0 S.heap α b o) → (∀ l ∈ p.fr, ∀ b o, U b o → ¬ fp (S.heap l).2 (α l) b o) → Al (fun x us => RdC w U k us x) p.x uss) ∧
      ∀ l ∈ p.fr, ∃ k full, (S.heap l).2 = .arr true false k full
  | [], _, m, p, .nil, hp => by
    rw [← ret_ev hp]
    exact ⟨[], rfl, by simp, .nil, fun _ _ _ => .nil, by simp⟩
  | (i, v) :: vs, (i', x) :: ps, m, p, .cons hv t, hp => by
    obtain ⟨hi, hv⟩ := hv
    simp only at hi hv
    subst hi
    simp only [packs] at hp
    split at hp
    case isFalse => exact (fail_ev hp).elim
    rename_i hc
    obtain ⟨rfl, c2, c3⟩ := hc
    obtain ⟨p1, h1, h2⟩ := bind_ev hp
    obtain ⟨p2, h3, h4⟩ := bind_ev h2
    have hpe := ret_ev h4
    subst hpe
    have hpos := Kd.sz_pos k
    obtain ⟨ws, w1, w2, w3⟩ := cells_val h hv (by omega) c2
    obtain ⟨⟨u1, u2, r1, r2, r3, r4⟩, r5, r6⟩ := pack_sound h k false _ _ p1 h1 w2
    have hwl : ws.length = k.sz := by rw [← w2.length, c3]
    have hu2 : u2 = [] := by
      have := congrArg List.length r1
      rw [hwl, List.length_append, r2] at this
      exact List.eq_nil_of_length_eq_zero (by omega)
    subst hu2
    rw [List.append_nil] at r1
    subst r1
    obtain ⟨uss, s1, s2, s3, s4, s5⟩ := packs_sound h k (i + 1) t h3
    refine ⟨ws :: uss, by simp [s1], ?_, ?_, ?_, ?_⟩
    · intro us hu
      rcases List.mem_cons.1 hu with rfl | hu
      · exact ⟨hwl, w3⟩
      · exact s2 us hu
    · rw [List.zipIdx_cons, List.map_cons, List.map_cons]
      exact .cons ⟨rfl, w1⟩ s3
    · intro U hU1 hU2
      refine .cons (r4 U hU1 (fun l hl => ?_)) (s4 U hU1 (fun l hl => hU2 l (by simp [hl])))
      rcases hl with hl | hl
      · exact hU2 l (by simp [hl])
      · rw [r6 rfl] at hl
        simp at hl
    · intro l hl
      rcases List.mem_append.1 hl with hl | hl
      · exact r5 l hl
      · exact s5 l hl
theorem step_buildSlice (ht : TdsOk cx E.P) (h : Inv E S α a w) (hd : dstOk E.n o) {t n : Nat} {ps : Array (Nat × Operand)} (ho : o.op = .buildSlice t n ps)
    (hs : (elOf cx t fun e => (parts ps.toList).bind fun vs => if vs.length = n ∧ n * e.k.sz ≤ 16777216 ∧ e.k.zero.isSome = true then
      (packs e.k vs 0).bind fun p => (freezes p.fr).bind fun fs =>
        (new o 0 (.arr true false e.k p.x) fun g => .ret (dput o (.one false [.ref (nm o 0) g none]))).bind fun us => .ret (fs ++ us) else .fail).ev S = some us) : Does E S a w o us := by
  obtain ⟨d, k0, e, hf, hk, hfe, h1⟩ := elOf_ev hs
  obtain ⟨vs, h2, h3⟩ := bind_ev h1
  split at h3
  case isFalse => exact (fail_ev h3).elim
  rename_i hc
  obtain ⟨c1, c2, c3⟩ := hc
  obtain ⟨p, h4, h5⟩ := bind_ev h3
  obtain ⟨fs, h6, h7⟩ := bind_ev h5
  obtain ⟨ns, h8, h9⟩ := bind_ev h7
  obtain ⟨qs, h10, rfl⟩ := new_ev h8
  rw [← ret_ev h10] at h9
  rw [← ret_ev h9]
  clear hs h1 h3 h5 h7 h8 h9 h10
  obtain ⟨uss, s1, s2, s3, s4, s5⟩ := packs_sound h e.k 0 (parts_sound h h2) h4
  have hu := (ht t d hf).und
  rw [hk] at hu
  obtain ⟨i, i1, i2, i3, i4⟩ := (ht _ e hfe).info
  obtain ⟨zc, hz⟩ := Option.isSome_iff_exists.1 c3
  obtain ⟨z, z1, z2⟩ := i4 zc hz
  have hpos := Kd.sz_pos e.k
  -- what the model fills
  have hinit : ∀ zz : Array Value, ((Array.range (n * e.k.sz)).map (zz[· % zz.size]!)).size = n * e.k.sz := by intro zz; simp
  have hul : ∀ us ∈ uss, us.length = e.k.sz := fun us hu => (s2 us hu).1
  have hfill : ∀ zz : Array Value, ∃ cells, Instr.fill (fun i => some (i * e.k.sz, e.k.sz)) ((Array.range (n * e.k.sz)).map (zz[· % zz.size]!)) (ps.map fun (i, x) => (i, a.eval x)).toList = some cells ∧ cells.toList = uss.flatten := by
    intro zz
    have hal : Al (fun (p : Nat × Value) (q : Nat × List Value) => (some (p.1 * e.k.sz, e.k.sz) : Option (Nat × Nat)) = some (q.1, q.2.length) ∧ p.2.cells = q.2.toArray ∧ q.1 + q.2.length ≤ ((Array.range (n * e.k.sz)).map (zz[· % zz.size]!)).size)
        (ps.map fun (i, x) => (i, a.eval x)).toList ((uss.zipIdx 0).map fun p => (p.2 * e.k.sz, p.1)) := by
      rw [hinit]
      rw [Array.toList_map]
      have hidx : ∀ q ∈ uss.zipIdx 0, q.2 < n ∧ q.1.length = e.k.sz := by
        intro q hq
        have := List.mem_zipIdx hq
        refine ⟨by omega, hul _ ?_⟩
        obtain ⟨_, _, he⟩ := this
        rw [he]
        exact List.getElem_mem _
      revert s3
      generalize hql : uss.zipIdx 0 = ql at hidx
      clear hql
      generalize (ps.toList.map fun (i, x) => (i, a.eval x)) = pl
      intro s3
      induction ql generalizing pl with
      | nil =>
        cases s3
        exact .nil
      | cons q ql ih =>
        cases s3 with
        | cons g1 g2 =>
          obtain ⟨g3, g4⟩ := g1
          obtain ⟨q1, q2⟩ := hidx q (by simp)
          refine .cons ⟨by rw [g3, q2], g4, ?_⟩ (ih (fun r hr => hidx r (by simp [hr])) _ g2)
          rw [q2]
          have : (q.2 + 1) * e.k.sz ≤ n * e.k.sz := Nat.mul_le_mul_right _ (by omega)
          rw [Nat.add_mul, Nat.one_mul] at this
          exact this
    obtain ⟨cells, e1, e2⟩ := fill_run (place := fun i => some (i * e.k.sz, e.k.sz)) hal
    refine ⟨cells, e1, ?_⟩
    rw [e2]
    have := fold_flatten e.k.sz uss 0 [] ((Array.range (n * e.k.sz)).map (zz[· % zz.size]!)).toList hul (by simp) (by rw [Array.length_toList, hinit, s1, c1])
    simpa using this
  have hfi : ∃ cells : Array Value, cells.toList = uss.flatten ∧ (Instr.buildSlice t n (ps.map fun (i, x) => (i, a.eval x))).run E.P w = .ok (.slice (some ⟨w.heap.size, 0, none⟩) n n) (w.alloc (.cells cells d.el)) := by
    have g1 : ¬ (16777216 < n * e.k.sz) := by omega
    by_cases h0 : n * e.k.sz = 0
    · obtain ⟨cells, e1, e2⟩ := hfill #[]
      refine ⟨cells, e2, ?_⟩
      rw [h0] at e1
      simp [Instr.buildSlice, run_underlying hu, sizeOf, typeInfo, i1, i2, newRow, h0]
      simp at e1
      rw [e1]
      simp
    · obtain ⟨cells, e1, e2⟩ := hfill zc.toArray
      refine ⟨cells, e2, ?_⟩
      simp [Instr.buildSlice, run_underlying hu, sizeOf, typeInfo, i1, i2, newRow, h0, g1, zeroValue, z1, z2]
      simp at e1
      rw [e1]
      simp
  obtain ⟨cells, e1, e2⟩ := hfi
  have hI := frz_inv h s5
  have hav := frz_avoid h s5 E.M0 (fun _ _ h => h)
  have hal := s4 _ hav.1 hav.2
  have hxl : p.x.length = n := by rw [hal.length, s1, c1]
  have hS : S.ups fs = { S with heap := frz p.fr S.heap } := by
    rw [freezes_ups h6]
    rfl
  have hgen : (frz p.fr S.heap (nm o 0)).1 = (S.heap (nm o 0)).1 := by
    unfold frz
    split
    · exact (frz1_shape (c := .no)).1
    · rfl
  have hcs : cells.size = n * e.k.sz := by
    rw [← Array.length_toList, e1, flatten_length e.k.sz uss hul, s1, c1]
  have := does_arr (E := E) (S := { S with heap := frz p.fr S.heap }) (α := α) (a := a) (w := w) (o := o) hI hd (w1 := w) rfl ⟨rfl, rfl, rfl⟩ (t := d.el) (n := n) (cap := n) (k := e.k) (xs := p.x) (cs := cells) (vw := none)
    (fun i x hi => by
      obtain ⟨us, u1, u2⟩ := hal.get hi
      refine ⟨us, u2, fun j v hj => ?_⟩
      rw [← Array.getElem?_toList, e1, flatten_get e.k.sz uss i j us hul u1 (by rw [← u2.len]; exact (List.getElem?_eq_some_iff.1 hj).1)]
      exact hj)
    (by omega) hcs rfl (by simp [vlen, hxl]) (by simp [vlen]) (by simp [execOp, ho, e2])
  simp only [hgen] at this
  intro next Q hn
  refine this next Q (fun α' a' w' hi => hn α' a' w' ?_)
  rw [ups_append, hS]
  exact hi
end
end Go.Cm
