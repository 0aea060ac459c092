/- For every argument the law FnExactVisitsBefore of the Go program returns true: VisitsBefore and its reference agree. Condition: that the listed tables of Go's library hold what the program's text lays; the card ties them to it. -/
import Derived.Test.YtjacdajcppcdlaaGreatDoorCmZL
import Derived.Test.YtjacdajcppcdlaaGreatDoorLnVisitsBefore
import Derived.Test.YtjacdajcppcdlaaGreatDoorLwVisitsBefore
import Derived.Test.YtjacdajcppcdlaaGreatDoorRoVisitsBefore
import Derived.Test.YtjacdajcppcdlaaGreatDoorRows
import Derived.Test.YtjacdajcppcdlaaGreatDoorTie
import Derived.Test.YtjacdajcppcdlaaGreatDoorCards
import Derived.WalkKit
import Derived.ProofKit
import Derived.LaidMore
import Derived.OpenShut
import Derived.Lay
import Derived.LaidOnce
import Derived.Shelf.Vars
import Derived.Stop.Joined
import Derived.Stop.LaidErr
import Derived.SevenLookT
import Derived.SevenTiedAt
namespace Go.Proofs.YtjacdajcppcdlaaGreatDoor.fnExactVisitsBefore
open Go.Cm
set_option linter.unusedVariables false
theorem own : ownKnob Tryz.prog.godebug = none := by kernel_rfl
theorem laidOut : laidOutB Tryz.prog = true := by kernel_rfl
abbrev laid : List (String × DataW Unit) := Rows.fnExactVisitsBeforeRow.laid
theorem kinds : PsOk Tryz.prog [PK.bo (Kd.st (Kd.sl (Kd.sl Kd.str))), PK.ro (Kd.int IntKind.i64), PK.bo (Kd.sl (Kd.int IntKind.i64))] Tryz.f6.params.toList := by
  rw [Tryz.params6]
  exact ⟨⟨_, Tryz.underlying24, by kernel_rfl, ⟨_, rfl, rfl, ⟨_, Tryz.underlying22, ⟨_, Tryz.underlying27, Tryz.underlying9, by kernel_rfl⟩, by kernel_rfl⟩, by kernel_rfl⟩⟩, by kernel_rfl, of_decide_eq_true (by kernel_rfl), Tryz.underlying2, by kernel_rfl, of_decide_eq_true (by kernel_rfl), ⟨_, Tryz.underlying25, Tryz.underlying2, by kernel_rfl⟩, by kernel_rfl, of_decide_eq_true (by kernel_rfl), trivial⟩
theorem tab : (Rows.laid_internal_strconv_uint64pow10 : DataW Unit) = Go.Lib.tabData .u64 Go.Lib.pow10Tab := by kernel_rfl
theorem rowErr (u : TypeId) (h : Tryz.prog.typeName? 3 u = some "*errors.errorString") : u = 223 :=
  have star : "*" ++ "errors.errorString" = "*errors.errorString" := by decide
  typeName_ptr_named (nm := "errors.errorString") (by rw [star]; kernel_rfl) (by kernel_rfl) (by decide) u (by rw [star]; exact h)
theorem heap_of_var {P : Program} {W : World} {n : String} {g : Nat} {cs : Array Value} (h : W.var? P n = some cs) (hg : P.globalNamed n = some g) : ∃ e z, W.heap[g]? = some (.cells cs e z) := by
  unfold World.var? at h
  rw [hg] at h
  simp only [Option.bind_some] at h
  split at h
  · rename_i cs' t z hh
    cases h
    exact ⟨t, z, hh⟩
  · cases h
/-- What the condition gives. -/
theorem of_laid {W : World} (ho : W.ShapedOpen Tryz.prog) (h : laidMetH Tryz.prog laid W) : ∃ s p q m, Laid [(0, Go.Lib.pow10Tab.map fun z => Value.int .u64 z), (4, [Value.iface s p]), (5, [Value.iface s q]), (1, [Value.int .i64 m])] W no2 := by
  obtain ⟨m, hm⟩ := Go.Proofs.cell_of_shapedOpen_int (g := 1) (zero := #[.int .i64 0]) (t := 3) ho (of_decide_eq_true (by kernel_rfl)) (by kernel_rfl) rfl (by kernel_rfl) (by kernel_rfl) Tryz.underlying3
  have hcell := int_cell (g := 1) (zero := #[.int .i64 0]) (t := 3) ho (of_decide_eq_true (by kernel_rfl)) (by kernel_rfl) rfl hm
  rw [MakeChecks.laidMetH_plain _ _ _ (by kernel_rfl)] at h
  obtain ⟨a1, _, v1, _⟩ := laid_sentinel h.tail.tail.tail (n := "strconv.ErrRange") (g := 5) (by kernel_rfl) (by kernel_rfl) Tryz.underlying184 rowErr Tryz.underlying223 Tryz.underlying225 rfl rfl Tryz.underlying9 (by kernel_rfl) (by kernel_rfl)
  obtain ⟨a2, _, v2, _⟩ := laid_sentinel h.tail.tail.tail.tail (n := "strconv.ErrSyntax") (g := 4) (by kernel_rfl) (by kernel_rfl) Tryz.underlying184 rowErr Tryz.underlying223 Tryz.underlying225 rfl rfl Tryz.underlying9 (by kernel_rfl) (by kernel_rfl)
  refine ⟨223, .pointer (some a2), .pointer (some a1), m, ?_⟩
  intro p hp
  simp only [List.mem_cons, List.mem_nil_iff, or_false] at hp
  rcases hp with rfl | rfl | rfl | rfl
  · refine ⟨?_, fun _ h => h⟩
    refine tab_laid (g := 0) (t := 201) (e := 117) (n := 20) (name := "internal/strconv.uint64pow10") h ?_ (by kernel_rfl) (by kernel_rfl) Tryz.underlying201 Tryz.underlying117 (by kernel_rfl) (by kernel_rfl)
    show _ ∈ [_, _, _, _, _]
    rw [← tab]
    simp [List.mem_cons]
  · exact ⟨heap_of_var v2 (by kernel_rfl), fun _ h => h⟩
  · exact ⟨heap_of_var v1 (by kernel_rfl), fun _ h => h⟩
  · exact ⟨hcell, fun _ h => h⟩
set_option maxRecDepth 100000 in
theorem lifted (os : Os) (started : os.Started) (H : Type) (enc : TypeId × Value → H) :
    ReturnsInHanded {} Tryz.checked os 6 .any (fun w args => (Rows.fnExactVisitsBeforeSpec.pre enc Tryz.prog Tryz.f6 [] false w args ∧ laidMetH Tryz.prog laid w) ∧ sizedMet enc Tryz.prog Tryz.f6 (OpenSpec.ofChange Rows.fnExactVisitsBeforeSpec) false w args)
      (Rows.fnExactVisitsBeforeSpec.post enc Tryz.prog Tryz.f6 false true false false) := by
  refine d4v (C := Tryz.checked) (X := fun w _ => laidMetH Tryz.prog laid w) (fun _ _ _ hh h => h.of_heap hh) own started (by kernel_rfl) Tryz.func6
    (ChangeSpec.witness_shaped (enc := enc) (C := Tryz.checked) (os := os) (X := fun w _ => laidMetH Tryz.prog laid w) false (World.laidAll Tryz.prog os laid) #[.agg #[.slice none 0 0], .int .i64 0, .slice none 0 0] 8 (World.laidAll_os _ _ _)
      (World.shaped_of_ZipB (by kernel_rfl) (by kernel_rfl)) (by kernel_rfl) (by kernel_rfl) (by kernel_rfl)
      (by rw [MakeChecks.laidMetH_plain _ _ _ (by kernel_rfl)]; exact laidMet_laidAll _ (by kernel_rfl) (by kernel_rfl))) ?_
  intro W base args ds gs before ho hval hW hz hL
  obtain ⟨s, p, q, m, hg⟩ := of_laid ho hL
  exact law_done_sz (gl := _) laidOut (Go.Cm.LnVisitsBefore.v_l_FnExactVisitsBefore ⟨m, by simp⟩ (by simp [Go.Cm.LnVisitsBefore.InP]) ⟨s, q, by simp⟩ ⟨s, p, by simp⟩) kinds (by kernel_rfl) Tryz.underlying4 rfl
    (fun ds hl => by
      rw [Tryz.params6] at hl
      match ds, hl with
      | [d1, d2, d3], _ => exact ⟨rfl, rfl, rfl⟩) (fun x h hz hl => c5h x h hz (by
        have q := hl.1 _ _ _ Tryz.underlying24 rfl Tryz.underlying22
        have e : Tryz.prog.bytesOf 27 = 24 := by kernel_rfl
        rw [e] at q
        have m : reachBytes ≤ 1000000000000000 := by decide
        omega) (by
        have q := hl.2.2.1 _ Tryz.underlying25
        have e : Tryz.prog.bytesOf 2 = 8 := by kernel_rfl
        rw [e] at q
        have m : reachBytes ≤ 1000000000000000 := by decide
        omega)) hg hval hW hz
theorem over : Rows.fnExactVisitsBeforeRow.holds Tryz.pinned (OpenSpec.ofChange Rows.fnExactVisitsBeforeSpec) :=
  OpenClaim.holds_of_wide 6 Tryz.f6 rfl rfl rfl rfl rfl rfl rfl ⟨rfl, rfl, rfl, rfl, rfl⟩ rfl rfl rfl rfl rfl o1 Tryz.func6 o2 o3 o4
    (fun os started H enc _ => lifted os started H enc)
theorem card : Rows.FnExactVisitsBeforeCardSaid :=
  Claim7.holds_tied_plain_at .later [] [.data, .data, .data, .sentinel, .sentinel] true (true, "c38a9387fe119abf20fe8898690cdb844314f5cab0fbf91208f025a7ff8c623d") true
    over (fun _ h => by cases h) o9 (fun _ h => by cases h) fnExactVisitsBefore_row_tie rfl ⟨rfl, rfl⟩ o5 rfl
    (fun f fn hf hfn => by
      obtain rfl : f = 6 := Option.some.inj (o1.symm.trans hf) |>.symm
      obtain rfl : fn = Tryz.f6 := (Option.some.inj (Tryz.func6.symm.trans hfn)).symm
      exact ⟨o6, fun j t ht => by
        rw [Tryz.params6] at ht
        have hm : t ∈ [24, 2, 25] := by simpa using Array.mem_of_getElem? ht
        exact (show Tryz.prog.wantsStandIn t = false by simpa using List.all_eq_true.1 o7 t hm)⟩)
    o8
#print axioms card
end Go.Proofs.YtjacdajcppcdlaaGreatDoor.fnExactVisitsBefore
namespace Go.Proofs.YtjacdajcppcdlaaGreatDoor
/-- The card, under a short name, for the claim. -/
theorem fnExactVisitsBefore_holds : Rows.FnExactVisitsBeforeCardSaid := fnExactVisitsBefore.card
end Go.Proofs.YtjacdajcppcdlaaGreatDoor
