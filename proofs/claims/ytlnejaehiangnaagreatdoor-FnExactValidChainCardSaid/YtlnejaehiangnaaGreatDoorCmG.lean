import Derived.Test.YtlnejaehiangnaaGreatDoorCmF
/-! Packing and unpacking. -/
namespace Go.Cm
theorem Kd.sz_pos : ∀ k : Kd, 0 < k.sz
  | .int _ | .bool | .str | .sl _ | .pt _ | .sv _ | .er => Nat.one_pos
  | .st f => Kd.sz_pos f
  | .pair a _ => Nat.lt_of_lt_of_le (Kd.sz_pos a) (Nat.le_add_right _ _)
theorem castL_rfl {k : Kd} (x : k.Ty) (h : k = k) : castL h x = x := rfl
theorem look_length {α : Type} (xs : List α) (vw : Option (Nat × Nat)) (h : voff vw + vlen xs vw ≤ xs.length) : (look xs vw).length = vlen xs vw := by
  cases vw with
  | none => rfl
  | some p => simp [look, seen, vlen, voff] at *; omega
theorem look_get {α : Type} (xs : List α) (vw : Option (Nat × Nat)) {i : Nat} {x : α} (h : (look xs vw)[i]? = some x) : xs[voff vw + i]? = some x ∧ i < vlen xs vw := by
  cases vw with
  | none => exact ⟨by simpa [look, voff] using h, (List.getElem?_eq_some_iff.1 h).1⟩
  | some p =>
    simp only [look, seen, List.getElem?_take, List.getElem?_drop] at h
    split at h
    · exact ⟨h, by simpa [vlen]⟩
    · cases h
theorem MM.le {M0 W0 : Nat → Nat → Prop} (h : ∀ b o, W0 b o → M0 b o) {H : Nat → Nat × AO} {α : Nat → CO} {b o : Nat} (h' : MM W0 H α b o) : MM M0 H α b o := h'.imp (h b o) id
theorem unpack_rd {w : World} {M Mb : Nat → Nat → Prop} {H : Nat → Nat × AO} {α : Nat → CO} {fl : Bool} : ∀ {k : Kd} {us : List Value} {x : k.Ty}, RdC w (if fl = true then Mb else M) k us x → Al (VR0 w M Mb H α) (unpack fl k x) us
  | .int _, _, _, h => by cases h; exact .cons rfl .nil
  | .bool, _, _, h => by cases h; exact .cons rfl .nil
  | .str, _, _, h => by cases h; exact .cons rfl .nil
  | .sl k, _, x, h => by
    have h0 := h
    obtain ⟨A, c, rfl, _⟩ := h
    exact .cons h0 .nil
  | .pt k, _, _, h => by
    have h0 := h
    obtain ⟨b, o, es, rfl, _⟩ := h
    exact .cons h0 .nil
  | .st f, _, _, h => unpack_rd (k := f) h
  | .pair a b, _, (x, y), h => by
    obtain ⟨c1, c2, rfl, h1, h2⟩ := h
    exact (unpack_rd h1).append (unpack_rd h2)
  | .sv k, _, (xs, n), h => by
    have h0 := h
    obtain ⟨A, c, rfl, _⟩ := h
    exact .cons h0 .nil
  | .er, _, _, h => by
    have h0 := h
    obtain ⟨v, rfl, _⟩ := h
    exact .cons h0 .nil
section
variable {E : En} {S : St} {α : Nat → CO} {a : Act} {w : World}
/-- A slice of an object reads as what it shows. -/
theorem ref_reads (hI : Inv E S α a w) {l g : Nat} {vw : Option (Nat × Nat)} {u : Value} (hr : R0 E S.heap α w (.ref l g vw) u) (hg : (S.heap l).1 = g) {mine fz : Bool} {k : Kd} {full : List k.Ty} (ho : (S.heap l).2 = .arr mine fz k full)
    {U : Nat → Nat → Prop} (hU : ∀ b o, U b o → MM E.M0 S.heap α b o) (hl : fz = false → ∀ b o, U b o → ¬ fp (S.heap l).2 (α l) b o) : RdC w U (.sl k) [u] (look full vw) := by
  have hr' := hr.1.2 hg
  have hor := hI.obj l
  rw [ho] at hr' hor
  cases hα : α l with
  | arr A cap real =>
    rw [hα] at hr' hor
    obtain ⟨h1, A', rfl, h2, h3⟩ := hr'
    obtain ⟨c1, c2, c3, c4, c5⟩ := hor
    have hlen := look_length full vw h1
    refine ⟨A', real - voff vw, by rw [hlen], by rw [hlen]; exact h2, fun hn => ?_⟩
    rw [hlen] at hn
    obtain ⟨b, o, hA, hA'⟩ := h3 (by omega)
    refine ⟨b, o + voff vw * k.sz, hA', fun i x hx => ?_⟩
    obtain ⟨hx1, hx2⟩ := look_get full vw hx
    obtain ⟨es, e1, e2, e3⟩ := (c5 b o hA).1 _ x hx1
    refine ⟨es, e1.mono (Keeps.less hU), fun j v hj => ?_⟩
    have hjl : j < k.sz := by rw [← e1.len]; exact (List.getElem?_eq_some_iff.1 hj).1
    have hpos : o + voff vw * k.sz + i * k.sz + j = o + (voff vw + i) * k.sz + j := by rw [Nat.add_mul]; omega
    rw [hpos]
    refine ⟨e2 j v hj, fun hu => ?_⟩
    cases fz with
    | true => exact e3 rfl j hjl (hU _ _ hu)
    | false =>
      refine hl rfl _ _ hu ?_
      rw [ho, hα, hA]
      refine ⟨rfl, by omega, ?_⟩
      have hi : voff vw + i < full.length := (List.getElem?_eq_some_iff.1 hx1).1
      have : (voff vw + i + 1) * k.sz ≤ cap * k.sz := Nat.mul_le_mul_right _ (by omega)
      rw [Nat.add_mul (voff vw + i)] at this
      omega
  | no => rw [hα] at hor; exact hor.elim
  | vars b => rw [hα] at hor; exact hor.elim
/-- The same, with what lies behind. -/
theorem ref_reads_sv (hI : Inv E S α a w) {l g : Nat} {vw : Option (Nat × Nat)} {u : Value} (hr : R0 E S.heap α w (.ref l g vw) u) (hg : (S.heap l).1 = g) {mine fz : Bool} {k : Kd} {full : List k.Ty} (ho : (S.heap l).2 = .arr mine fz k full)
    {U : Nat → Nat → Prop} (hU : ∀ b o, U b o → MM E.M0 S.heap α b o) (hl : fz = false → ∀ b o, U b o → ¬ fp (S.heap l).2 (α l) b o) : RdC w U (.sv k) [u] (full.drop (voff vw), vlen full vw) := by
  have hr' := hr.1.2 hg
  have hor := hI.obj l
  rw [ho] at hr' hor
  cases hα : α l with
  | arr A cap real =>
    rw [hα] at hr' hor
    obtain ⟨h1, A', rfl, h2, h3⟩ := hr'
    obtain ⟨c1, c2, c3, c4, c5⟩ := hor
    have hld : (full.drop (voff vw)).length = full.length - voff vw := by simp
    refine ⟨A', real - voff vw, rfl, ⟨by rw [hld]; omega, by rw [hld]; omega⟩, fun hn => ?_⟩
    rw [hld] at hn
    obtain ⟨b, o, hA, hA'⟩ := h3 (by omega)
    refine ⟨b, o + voff vw * k.sz, hA', fun i x hx => ?_⟩
    have hx1 : full[voff vw + i]? = some x := by rwa [List.getElem?_drop] at hx
    obtain ⟨es, e1, e2, e3⟩ := (c5 b o hA).1 _ x hx1
    refine ⟨es, e1.mono (Keeps.less hU), fun j v hj => ?_⟩
    have hjl : j < k.sz := by rw [← e1.len]; exact (List.getElem?_eq_some_iff.1 hj).1
    have hpos : o + voff vw * k.sz + i * k.sz + j = o + (voff vw + i) * k.sz + j := by rw [Nat.add_mul]; omega
    rw [hpos]
    refine ⟨e2 j v hj, fun hu => ?_⟩
    cases fz with
    | true => exact e3 rfl j hjl (hU _ _ hu)
    | false =>
      refine hl rfl _ _ hu ?_
      rw [ho, hα, hA]
      refine ⟨rfl, by omega, ?_⟩
      have hi : voff vw + i < full.length := (List.getElem?_eq_some_iff.1 hx1).1
      have : (voff vw + i + 1) * k.sz ≤ cap * k.sz := Nat.mul_le_mul_right _ (by omega)
      rw [Nat.add_mul (voff vw + i)] at this
      omega
  | no => rw [hα] at hor; exact hor.elim
  | vars b => rw [hα] at hor; exact hor.elim
/-- What packing says. -/
def Packed (E : En) (S : St) (α : Nat → CO) (w : World) (bor : Bool) (k : Kd) (us : List Value) (p : Pk k.Ty) : Prop :=
  (∃ us1 us2, us = us1 ++ us2 ∧ us1.length = k.sz ∧ Al (R0 E S.heap α w) p.rest us2 ∧
    ∀ U : Nat → Nat → Prop, (∀ b o, U b o → MM (if bor = true then E.W0 else E.M0) S.heap α b o) → (∀ l, l ∈ p.fr ∨ l ∈ p.bo → ∀ b o, U b o → ¬ fp (S.heap l).2 (α l) b o) → RdC w U k us1 p.x) ∧
  (∀ l ∈ p.fr, ∃ k full, (S.heap l).2 = .arr true false k full) ∧ (bor = false → p.bo = [])
theorem pack_sound (hI : Inv E S α a w) : ∀ (k : Kd) (bor : Bool) (cs : List A0) (us : List Value) (p : Pk k.Ty), (pack bor k cs).ev S = some p → Al (R0 E S.heap α w) cs us → Packed E S α w bor k us p := by
  intro k
  induction k with
  | int ik =>
    intro bor cs us p hp hv
    cases hv with
    | nil => simp [pack, Cm.ev] at hp
    | @cons x u cs us hx hr =>
      cases x with
      | v y =>
        cases y <;> simp [pack, Cm.ev] at hp
        rename_i ik' n
        split at hp
        · rename_i hk
          simp [Cm.ev] at hp
          subst hp hk
          exact ⟨⟨[u], us, rfl, rfl, hr, fun U _ _ => by rw [show u = _ from hx]; rfl⟩, by simp, fun _ => rfl⟩
        · simp [Cm.ev] at hp
      | _ => simp [pack, Cm.ev] at hp
  | bool =>
    intro bor cs us p hp hv
    cases hv with
    | nil => simp [pack, Cm.ev] at hp
    | @cons x u cs us hx hr =>
      cases x with
      | v y =>
        cases y <;> simp [pack, Cm.ev] at hp
        subst hp
        exact ⟨⟨[u], us, rfl, rfl, hr, fun U _ _ => by rw [show u = _ from hx]; rfl⟩, by simp, fun _ => rfl⟩
      | _ => simp [pack, Cm.ev] at hp
  | str =>
    intro bor cs us p hp hv
    cases hv with
    | nil => simp [pack, Cm.ev] at hp
    | @cons x u cs us hx hr =>
      cases x with
      | v y =>
        cases y <;> simp [pack, Cm.ev] at hp
        subst hp
        exact ⟨⟨[u], us, rfl, rfl, hr, fun U _ _ => by rw [show u = _ from hx]; rfl⟩, by simp, fun _ => rfl⟩
      | _ => simp [pack, Cm.ev] at hp
  | st f ih =>
    intro bor cs us p hp hv
    exact ih bor cs us p (by simpa [pack] using hp) hv
  | pair ka kb iha ihb =>
    intro bor cs us p hp hv
    simp only [pack, Cm.ev_bind, Option.bind_eq_some_iff] at hp
    obtain ⟨pa, hpa, pb, hpb, hp⟩ := hp
    simp only [Cm.ev, Option.some.injEq] at hp
    subst hp
    obtain ⟨⟨ua, ur, rfl, hla, hra, hxa⟩, hfa, hba⟩ := iha bor cs us pa hpa hv
    obtain ⟨⟨ub, us2, rfl, hlb, hrb, hxb⟩, hfb, hbb⟩ := ihb bor pa.rest ur pb hpb hra
    refine ⟨⟨ua ++ ub, us2, by simp, by simp [hla, hlb, Kd.sz], hrb, fun U h1 h2 => ⟨ua, ub, rfl, hxa U h1 (fun l hl => h2 l ?_), hxb U h1 (fun l hl => h2 l ?_)⟩⟩, fun l hl => ?_, fun hb => by simp [hba hb, hbb hb]⟩
    · rcases hl with hl | hl <;> simp [hl]
    · rcases hl with hl | hl <;> simp [hl]
    · rcases List.mem_append.1 hl with hl | hl
      · exact hfa l hl
      · exact hfb l hl
  | sl k ih =>
    intro bor cs us p hp hv
    cases hv with
    | nil => simp [pack, Cm.ev] at hp
    | @cons x u cs us hx hr =>
      cases x with
      | v y =>
        cases y with
        | slice A n c =>
          cases A with
          | none =>
            cases n with
            | zero =>
              cases c with
              | zero =>
                simp [pack, Cm.ev] at hp
                subst hp
                refine ⟨⟨[u], us, rfl, rfl, hr, fun U _ _ => ?_⟩, by simp, fun _ => rfl⟩
                rw [show u = _ from hx]
                exact ⟨none, 0, rfl, Nat.le_refl _, fun h => absurd rfl h⟩
              | succ c => simp [pack, Cm.ev] at hp
            | succ n => simp [pack, Cm.ev] at hp
          | some A => simp [pack, Cm.ev] at hp
        | _ => simp [pack, Cm.ev] at hp
      | sl fl k' xs =>
        simp only [pack] at hp
        split at hp
        · rename_i f hk
          split at hp
          · rename_i hfl
            simp only [Cm.ev, Option.some.injEq] at hp
            subst hp
            refine ⟨⟨[u], us, rfl, rfl, hr, fun U h1 _ => ?_⟩, by simp, fun _ => rfl⟩
            refine fgL_rd hk (RdC.mono (k := .sl k') (Keeps.less ?_) hx)
            intro b o hu
            have := h1 b o hu
            cases fl with
            | false => cases bor with
              | false => exact this
              | true => exact MM.le E.hW this
            | true => cases bor with
              | false => simp at hfl
              | true => exact this
          · simp [Cm.ev] at hp
        · simp [Cm.ev] at hp
      | sv fl k' xs n =>
        simp only [pack] at hp
        split at hp
        · rename_i f hk
          split at hp
          · rename_i hfl
            simp only [Cm.ev, Option.some.injEq] at hp
            subst hp
            refine ⟨⟨[u], us, rfl, rfl, hr, fun U h1 _ => ?_⟩, by simp, fun _ => rfl⟩
            refine fgL_rd hk (sv_sl (RdC.mono (k := .sv k') (x := (xs, n)) (Keeps.less ?_) hx))
            intro b o hu
            have := h1 b o hu
            cases fl with
            | false => cases bor with
              | false => exact this
              | true => exact MM.le E.hW this
            | true => cases bor with
              | false => simp at hfl
              | true => exact this
          · simp [Cm.ev] at hp
        · simp [Cm.ev] at hp
      | ref l g vw =>
        simp only [pack, Cm.ev] at hp
        split at hp
        · rename_i hg
          split at hp
          · rename_i mine fz k' full ho
            split at hp
            · rename_i f hk
              have hU : ∀ U : Nat → Nat → Prop, (∀ b o, U b o → MM (if bor = true then E.W0 else E.M0) S.heap α b o) → ∀ b o, U b o → MM E.M0 S.heap α b o := by
                intro U h1 b o hu
                have := h1 b o hu
                cases bor with
                | false => exact this
                | true => exact MM.le E.hW this
              split at hp
              · rename_i hz
                simp only [Cm.ev, Option.some.injEq] at hp
                subst hp
                exact ⟨⟨[u], us, rfl, rfl, hr, fun U h1 _ => fgL_rd hk (ref_reads hI hx hg ho (hU U h1) (by simp [hz]))⟩, by simp, fun _ => rfl⟩
              · rename_i hz
                split at hp
                · rename_i hb
                  simp only [Cm.ev, Option.some.injEq] at hp
                  subst hp
                  exact ⟨⟨[u], us, rfl, rfl, hr, fun U h1 h2 => fgL_rd hk (ref_reads hI hx hg ho (hU U h1) (fun _ => h2 l (by simp)))⟩, by simp, fun h => by simp [h] at hb⟩
                · split at hp
                  · rename_i hm
                    simp only [Cm.ev, Option.some.injEq] at hp
                    subst hp
                    refine ⟨⟨[u], us, rfl, rfl, hr, fun U h1 h2 => fgL_rd hk (ref_reads hI hx hg ho (hU U h1) (fun _ => h2 l (by simp)))⟩, ?_, fun _ => rfl⟩
                    intro l' hl'
                    simp at hl'
                    subst hl'
                    exact ⟨k', full, by rw [ho]; simp [hm, hz]⟩
                  · simp [Cm.ev] at hp
            · simp [Cm.ev] at hp
          · simp [Cm.ev] at hp
        · simp [Cm.ev] at hp
      | _ => simp [pack, Cm.ev] at hp
  | sv k ih =>
    intro bor cs us p hp hv
    cases hv with
    | nil => simp [pack, Cm.ev] at hp
    | @cons x u cs us hx hr =>
      cases x with
      | v y =>
        cases y with
        | slice A n c =>
          cases A with
          | none =>
            cases n with
            | zero =>
              cases c with
              | zero =>
                simp [pack, Cm.ev] at hp
                subst hp
                refine ⟨⟨[u], us, rfl, rfl, hr, fun U _ _ => ?_⟩, by simp, fun _ => rfl⟩
                rw [show u = _ from hx]
                exact ⟨none, 0, rfl, ⟨Nat.le_refl _, Nat.le_refl _⟩, fun h => absurd rfl h⟩
              | succ c => simp [pack, Cm.ev] at hp
            | succ n => simp [pack, Cm.ev] at hp
          | some A => simp [pack, Cm.ev] at hp
        | _ => simp [pack, Cm.ev] at hp
      | sv fl k' xs n =>
        simp only [pack] at hp
        split at hp
        · rename_i hk
          subst hk
          split at hp
          · rename_i hfl
            simp only [Cm.ev, Option.some.injEq] at hp
            subst hp
            refine ⟨⟨[u], us, rfl, rfl, hr, fun U h1 _ => ?_⟩, by simp, fun _ => rfl⟩
            refine RdC.mono (k := .sv k') (x := (xs, n)) (Keeps.less ?_) hx
            intro b o hu
            have := h1 b o hu
            cases fl with
            | false => cases bor with
              | false => exact this
              | true => exact MM.le E.hW this
            | true => cases bor with
              | false => simp at hfl
              | true => exact this
          · simp [Cm.ev] at hp
        · simp [Cm.ev] at hp
      | ref l g vw =>
        simp only [pack, Cm.ev] at hp
        split at hp
        · rename_i hg
          split at hp
          · rename_i mine fz k' full ho
            split at hp
            · rename_i hk
              subst hk
              have hU : ∀ U : Nat → Nat → Prop, (∀ b o, U b o → MM (if bor = true then E.W0 else E.M0) S.heap α b o) → ∀ b o, U b o → MM E.M0 S.heap α b o := by
                intro U h1 b o hu
                have := h1 b o hu
                cases bor with
                | false => exact this
                | true => exact MM.le E.hW this
              split at hp
              · rename_i hz
                simp only [Cm.ev, Option.some.injEq] at hp
                subst hp
                exact ⟨⟨[u], us, rfl, rfl, hr, fun U h1 _ => ref_reads_sv hI hx hg ho (hU U h1) (by simp [hz])⟩, by simp, fun _ => rfl⟩
              · rename_i hz
                split at hp
                · rename_i hb
                  simp only [Cm.ev, Option.some.injEq] at hp
                  subst hp
                  exact ⟨⟨[u], us, rfl, rfl, hr, fun U h1 h2 => ref_reads_sv hI hx hg ho (hU U h1) (fun _ => h2 l (by simp))⟩, by simp, fun h => by simp [h] at hb⟩
                · split at hp
                  · rename_i hm
                    simp only [Cm.ev, Option.some.injEq] at hp
                    subst hp
                    refine ⟨⟨[u], us, rfl, rfl, hr, fun U h1 h2 => ref_reads_sv hI hx hg ho (hU U h1) (fun _ => h2 l (by simp))⟩, ?_, fun _ => rfl⟩
                    intro l' hl'
                    simp at hl'
                    subst hl'
                    exact ⟨k', full, by rw [ho]; simp [hm, hz]⟩
                  · simp [Cm.ev] at hp
            · simp [Cm.ev] at hp
          · simp [Cm.ev] at hp
        · simp [Cm.ev] at hp
      | _ => simp [pack, Cm.ev] at hp
  | er =>
    intro bor cs us p hp hv
    cases hv with
    | nil => simp [pack, Cm.ev] at hp
    | @cons x u cs us hx hr =>
      cases x with
      | er b =>
        simp [pack, Cm.ev] at hp
        subst hp
        exact ⟨⟨[u], us, rfl, rfl, hr, fun U _ _ => hx⟩, by simp, fun _ => rfl⟩
      | v y =>
        cases y <;> simp [pack, Cm.ev] at hp
        subst hp
        refine ⟨⟨[u], us, rfl, rfl, hr, fun U _ _ => ?_⟩, by simp, fun _ => rfl⟩
        rw [show u = _ from hx]
        exact ⟨_, rfl, by simp [Value.oneCell'], by simp⟩
      | _ => simp [pack, Cm.ev] at hp
  | pt k ih =>
    intro bor cs us p hp hv
    cases hv with
    | nil => simp [pack, Cm.ev] at hp
    | @cons x u cs us hx hr =>
      cases x with
      | pt fl k' x =>
        simp only [pack] at hp
        split at hp
        · rename_i hk
          subst hk
          split at hp
          · rename_i hfl
            simp only [Cm.ev, Option.some.injEq] at hp
            subst hp
            refine ⟨⟨[u], us, rfl, rfl, hr, fun U h1 _ => ?_⟩, by simp, fun _ => rfl⟩
            refine RdC.mono (k := .pt k') (Keeps.less ?_) hx
            intro b o hu
            have := h1 b o hu
            cases fl with
            | false => cases bor with
              | false => exact this
              | true => exact MM.le E.hW this
            | true => cases bor with
              | false => simp at hfl
              | true => exact this
          · simp [Cm.ev] at hp
        · simp [Cm.ev] at hp
      | pv l g j =>
        simp only [pack] at hp
        split at hp
        · rename_i hb
          subst hb
          simp only [Cm.ev] at hp
          split at hp
          · rename_i hg
            split at hp
            · rename_i vs ho
              simp only [Cm.ev_bind, Option.bind_eq_some_iff] at hp
              obtain ⟨q, hq, hp⟩ := hp
              simp only [Cm.ev, Option.some.injEq] at hp
              subst hp
              have hor := hI.obj l
              rw [ho] at hor
              have hpv := hx.1.2 hg
              rw [ho] at hpv
              cases hα : α l with
              | vars b =>
                rw [hα] at hor hpv
                obtain ⟨us', h1, h2⟩ := hor
                have hpv' : u = .pointer (some ⟨b, j, none⟩) := hpv
                obtain ⟨⟨u1, u2, e1, e2, e3, e4⟩, f1, f2⟩ := ih true (vs.drop j) (us'.drop j) q hq (h1.drop j)
                refine ⟨⟨[u], us, rfl, rfl, hr, fun U hU1 hU2 => ?_⟩, ?_, fun h => by simp at h⟩
                · refine ⟨b, j, u1, by rw [hpv'], e4 U hU1 (fun l' hl' => hU2 l' ?_), fun i v hi => ?_⟩
                  · rcases hl' with hl' | hl' <;> simp [hl']
                  · have hi' : us'[j + i]? = some v := by
                      have : (us'.drop j)[i]? = some v := by
                        rw [e1, List.getElem?_append_left (List.getElem?_eq_some_iff.1 hi).1]
                        exact hi
                      simpa using this
                    refine ⟨(h2 _ _ hi').1, fun hu => hU2 l (by simp) _ _ hu ?_⟩
                    rw [ho, hα]
                    refine ⟨rfl, ?_⟩
                    rw [h1.length]
                    exact (List.getElem?_eq_some_iff.1 hi').1
                · exact f1
              | no => rw [hα] at hor; exact hor.elim
              | arr A c r => rw [hα] at hor; exact hor.elim
            · simp [Cm.ev] at hp
          · simp [Cm.ev] at hp
        · simp [Cm.ev] at hp
      | _ => simp [pack, Cm.ev] at hp
end
end Go.Cm
