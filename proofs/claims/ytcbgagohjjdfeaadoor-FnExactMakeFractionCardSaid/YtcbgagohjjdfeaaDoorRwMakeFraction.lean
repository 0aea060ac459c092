/- For every argument the law FnExactMakeFraction of the Go program returns true: MakeFraction and its reference agree. Condition: that the listed tables of Go's library hold what the program's text lays; the card ties them to it. -/
import Derived.Test.YtcbgagohjjdfeaaDoorCmZJ
import Derived.Test.YtcbgagohjjdfeaaDoorLnMakeFraction
import Derived.Test.YtcbgagohjjdfeaaDoorLwMakeFraction
import Derived.Test.YtcbgagohjjdfeaaDoorRows
import Derived.Test.YtcbgagohjjdfeaaDoorTie
import Derived.Test.YtcbgagohjjdfeaaDoorCards
import Derived.WalkKit
import Derived.ProofKit
import Derived.LaidMore
import Derived.OpenShut
import Derived.Stop.Joined
import Derived.SevenTiedAt
namespace Go.Proofs.YtcbgagohjjdfeaaDoor.fnExactMakeFraction
open Go.Cm
set_option linter.unusedVariables false
theorem own : ownKnob Tryd.prog.godebug = none := by kernel_rfl
theorem laidOut : laidOutB Tryd.prog = true := by kernel_rfl
abbrev laid : List (String × DataW Unit) := Rows.fnExactMakeFractionRow.laid
theorem kinds : PsOk Tryd.prog [PK.ro (Kd.int IntKind.i64), PK.ro (Kd.int IntKind.i64)] Tryd.f7.params.toList := by
  rw [Tryd.params7]
  exact ⟨Tryd.underlying2, by kernel_rfl, of_decide_eq_true (by kernel_rfl), Tryd.underlying2, by kernel_rfl, of_decide_eq_true (by kernel_rfl), trivial⟩
theorem door_met (os : Os) (args : Array Value) : laidMetH Tryd.prog laid ((World.doorLaid Tryd.prog 400 os).forCall (fun _ _ => 0) ⟨#[], args, []⟩).memory :=
  laidMetH_of_parts3 (fuel := 8) (laidMet_of_run' 8 (by kernel_rfl) (by kernel_rfl)) (by kernel_rfl) (by kernel_rfl)
theorem tab : (Rows.laid_internal_strconv_uint64pow10 : DataW Unit) = Go.Lib.tabData .u64 Go.Lib.pow10Tab := by kernel_rfl
/-- What the condition gives. -/
theorem of_laid {W : World} (h : laidMetH Tryd.prog laid W) : Laid [(0, Go.Lib.pow10Tab.map fun z => Value.int .u64 z)] W no2 := by
  rw [MakeChecks.laidMetH_plain _ _ _ (by kernel_rfl)] at h
  intro p hp
  simp only [List.mem_cons, List.mem_nil_iff, or_false] at hp
  subst hp
  refine ⟨?_, fun _ h => h⟩
  refine tab_laid (g := 0) (t := 138) (e := 63) (n := 20) (name := "internal/strconv.uint64pow10") h ?_ (by kernel_rfl) (by kernel_rfl) Tryd.underlying138 Tryd.underlying63 (by kernel_rfl) (by kernel_rfl)
  show _ ∈ [_, _, _]
  rw [← tab]
  simp [List.mem_cons]
set_option maxRecDepth 100000 in
theorem lifted (os : Os) (started : os.Started) (H : Type) (enc : TypeId × Value → H) :
    ReturnsInHanded {} Tryd.checked os 7 .any (fun w args => (Rows.fnExactMakeFractionSpec.pre enc Tryd.prog Tryd.f7 [] false w args ∧ laidMetH Tryd.prog laid w) ∧ sizedMet enc Tryd.prog Tryd.f7 (OpenSpec.ofChange Rows.fnExactMakeFractionSpec) false w args)
      (Rows.fnExactMakeFractionSpec.post enc Tryd.prog Tryd.f7 false true false false) := by
  refine returnsInHanded_of_change_and (C := Tryd.checked) (X := fun w _ => laidMetH Tryd.prog laid w) (fun _ _ _ hh h => h.of_heap hh) own started (by kernel_rfl) Tryd.func7
    (ChangeSpec.witness_shaped (enc := enc) (C := Tryd.checked) (os := os) (X := fun w _ => laidMetH Tryd.prog laid w) false (World.doorLaid Tryd.prog 400 os) #[.int .i64 0, .int .i64 0] 8 rfl (World.shaped_of_RefB (by kernel_rfl) (by kernel_rfl)) (by kernel_rfl) (by kernel_rfl) (by kernel_rfl) (door_met os _)) ?_
  intro W base args ds gs before hval hW _ _ hL _
  exact law_done (gl := _) laidOut (Go.Cm.LnMakeFraction.v_l_FnExactMakeFraction (List.mem_singleton.2 rfl)) kinds (by kernel_rfl) Tryd.underlying4 rfl
    (fun ds hl => by
      rw [Tryd.params7] at hl
      match ds, hl with
      | [d1, d2], _ => exact ⟨rfl, rfl, rfl⟩) MakeFraction_true (of_laid hL) hval hW
theorem over : Rows.fnExactMakeFractionRow.holds Tryd.pinned (OpenSpec.ofChange Rows.fnExactMakeFractionSpec) :=
  OpenClaim.holds_of_wide 7 Tryd.f7 rfl rfl rfl rfl rfl rfl rfl ⟨rfl, rfl, rfl, rfl, rfl⟩ rfl rfl rfl rfl rfl (by kernel_rfl) Tryd.func7 (by kernel_rfl)
    (of_decide_eq_true (by kernel_rfl)) (by unfold Func.isWrapper; first | (rw [if_pos (by decide +kernel)]; kernel_rfl) | (rw [if_neg (by decide +kernel)]; exact ⟨rfl, rfl⟩))
    (fun os started H enc _ => lifted os started H enc)
theorem card : Rows.FnExactMakeFractionCardSaid :=
  Claim7.holds_tied_plain_at .later [] [.data, .data, .data] true (true, "2408aa54dfcd407aa8d7263e4b58fe61e39ab83c696290ec90d78b74899827e8") true
    over (fun _ h => by cases h) (by kernel_rfl) (fun _ h => by cases h) fnExactMakeFraction_row_tie rfl ⟨rfl, rfl⟩ (by kernel_rfl) rfl
    (fun f fn hf hfn => by
      obtain rfl : f = 7 := Option.some.inj ((show Tryd.prog.funcNamed "loop.example/g01211/laws.FnExactMakeFraction" = some 7 by kernel_rfl).symm.trans hf) |>.symm
      obtain rfl : fn = Tryd.f7 := (Option.some.inj (Tryd.func7.symm.trans hfn)).symm
      exact ⟨by kernel_rfl, fun j t ht => by
        rw [Tryd.params7] at ht
        have hm : t ∈ [2, 2] := by simpa using Array.mem_of_getElem? ht
        have hall : ([2, 2].all fun u => !Tryd.prog.wantsStandIn u) = true := by kernel_rfl
        exact (show Tryd.prog.wantsStandIn t = false by simpa using List.all_eq_true.1 hall t hm)⟩)
    (by kernel_rfl)
#print axioms card
end Go.Proofs.YtcbgagohjjdfeaaDoor.fnExactMakeFraction
namespace Go.Proofs.YtcbgagohjjdfeaaDoor
/-- The card, under a short name, for the claim. -/
theorem fnExactMakeFraction_holds : Rows.FnExactMakeFractionCardSaid := fnExactMakeFraction.card
end Go.Proofs.YtcbgagohjjdfeaaDoor
