/- For every list of int64s the law FnExactListText of the Go program returns true: ListText and its reference agree. Condition: that the listed tables of Go's library hold what the program's text lays; the card ties them to it. -/
import Derived.Test.YtcbgagohjjdfeaaDoorCmZJ
import Derived.Test.YtcbgagohjjdfeaaDoorLnD4
import Derived.Test.YtcbgagohjjdfeaaDoorLwListText
import Derived.Test.YtcbgagohjjdfeaaDoorRows
import Derived.Test.YtcbgagohjjdfeaaDoorTie
import Derived.Test.YtcbgagohjjdfeaaDoorCards
import Derived.WalkKit
import Derived.ProofKit
import Derived.LaidMore
import Derived.OpenShut
import Derived.Stop.Joined
import Derived.SevenTiedAt
namespace Go.Proofs.YtcbgagohjjdfeaaDoor.fnExactListText
open Go.Cm
set_option linter.unusedVariables false
theorem own : ownKnob Tryd.prog.godebug = none := by kernel_rfl
theorem laidOut : laidOutB Tryd.prog = true := by kernel_rfl
abbrev laid : List (String × DataW Unit) := Rows.fnExactListTextRow.laid
theorem kinds : PsOk Tryd.prog [PK.bo (Kd.sl (Kd.int IntKind.i64))] Tryd.f4.params.toList := by
  rw [Tryd.params4]
  exact ⟨⟨_, Tryd.underlying24, Tryd.underlying2, by kernel_rfl⟩, by kernel_rfl, of_decide_eq_true (by kernel_rfl), trivial⟩
theorem door_met (os : Os) (args : Array Value) : laidMetH Tryd.prog laid ((World.doorLaid Tryd.prog 400 os).forCall (fun _ _ => 0) ⟨#[], args, []⟩).memory :=
  laidMetH_of_parts3 (fuel := 8) (laidMet_of_run' 8 (by kernel_rfl) (by kernel_rfl)) (by kernel_rfl) (by kernel_rfl)
theorem tab : (Rows.laid_internal_strconv_uint64pow10 : DataW Unit) = Go.Lib.tabData .u64 Go.Lib.pow10Tab := by kernel_rfl
/-- What the condition gives. -/
theorem of_laid {W : World} (h : laidMetH Tryd.prog laid W) : Laid [(0, Go.Lib.pow10Tab.map fun z => Value.int .u64 z)] W no2 := by
  rw [MakeChecks.laidMetH_plain _ _ _ (by kernel_rfl)] at h
  intro p hp
  simp only [List.mem_cons, List.mem_nil_iff, or_false] at hp
  subst hp
  refine ⟨?_, fun _ h => h⟩
  refine tab_laid (g := 0) (t := 138) (e := 63) (n := 20) (name := "internal/strconv.uint64pow10") h ?_ (by kernel_rfl) (by kernel_rfl) Tryd.underlying138 Tryd.underlying63 (by kernel_rfl) (by kernel_rfl)
  show _ ∈ [_, _, _]
  rw [← tab]
  simp [List.mem_cons]
set_option maxRecDepth 100000 in
theorem lifted (os : Os) (started : os.Started) (H : Type) (enc : TypeId × Value → H) :
    ReturnsInHanded {} Tryd.checked os 4 .any (fun w args => (Rows.fnExactListTextSpec.pre enc Tryd.prog Tryd.f4 [] false w args ∧ laidMetH Tryd.prog laid w) ∧ sizedMet enc Tryd.prog Tryd.f4 (OpenSpec.ofChange Rows.fnExactListTextSpec) false w args)
      (Rows.fnExactListTextSpec.post enc Tryd.prog Tryd.f4 false true false false) := by
  refine returnsInHanded_of_change_and (C := Tryd.checked) (X := fun w _ => laidMetH Tryd.prog laid w) (fun _ _ _ hh h => h.of_heap hh) own started (by kernel_rfl) Tryd.func4
    (ChangeSpec.witness_shaped (enc := enc) (C := Tryd.checked) (os := os) (X := fun w _ => laidMetH Tryd.prog laid w) false (World.doorLaid Tryd.prog 400 os) #[.slice none 0 0] 8 rfl (World.shaped_of_RefB (by kernel_rfl) (by kernel_rfl)) (by kernel_rfl) (by kernel_rfl) (by kernel_rfl) (door_met os _)) ?_
  intro W base args ds gs before hval hW _ _ hL _
  exact law_done (gl := _) laidOut (Go.Cm.LnD4.v_l_FnExactListText (List.mem_singleton.2 rfl)) kinds (by kernel_rfl) Tryd.underlying4 rfl
    (fun ds hl => by
      rw [Tryd.params4] at hl
      match ds, hl with
      | [d1], _ => exact ⟨rfl, rfl, rfl⟩) ListText_true (of_laid hL) hval hW
theorem over : Rows.fnExactListTextRow.holds Tryd.pinned (OpenSpec.ofChange Rows.fnExactListTextSpec) :=
  OpenClaim.holds_of_wide 4 Tryd.f4 rfl rfl rfl rfl rfl rfl rfl ⟨rfl, rfl, rfl, rfl, rfl⟩ rfl rfl rfl rfl rfl (by kernel_rfl) Tryd.func4 (by kernel_rfl)
    (of_decide_eq_true (by kernel_rfl)) (by unfold Func.isWrapper; first | (rw [if_pos (by decide +kernel)]; kernel_rfl) | (rw [if_neg (by decide +kernel)]; exact ⟨rfl, rfl⟩))
    (fun os started H enc _ => lifted os started H enc)
theorem card : Rows.FnExactListTextCardSaid :=
  Claim7.holds_tied_plain_at .later [] [.data, .data, .data] true (true, "2408aa54dfcd407aa8d7263e4b58fe61e39ab83c696290ec90d78b74899827e8") true
    over (fun _ h => by cases h) (by kernel_rfl) (fun _ h => by cases h) fnExactListText_row_tie rfl ⟨rfl, rfl⟩ (by kernel_rfl) rfl
    (fun f fn hf hfn => by
      obtain rfl : f = 4 := Option.some.inj ((show Tryd.prog.funcNamed "loop.example/g01211/laws.FnExactListText" = some 4 by kernel_rfl).symm.trans hf) |>.symm
      obtain rfl : fn = Tryd.f4 := (Option.some.inj (Tryd.func4.symm.trans hfn)).symm
      exact ⟨by kernel_rfl, fun j t ht => by
        rw [Tryd.params4] at ht
        have hm : t ∈ [24] := by simpa using Array.mem_of_getElem? ht
        have hall : ([24].all fun u => !Tryd.prog.wantsStandIn u) = true := by kernel_rfl
        exact (show Tryd.prog.wantsStandIn t = false by simpa using List.all_eq_true.1 hall t hm)⟩)
    (by kernel_rfl)
#print axioms card
end Go.Proofs.YtcbgagohjjdfeaaDoor.fnExactListText
namespace Go.Proofs.YtcbgagohjjdfeaaDoor
/-- The card, under a short name, for the claim. -/
theorem fnExactListText_holds : Rows.FnExactListTextCardSaid := fnExactListText.card
end Go.Proofs.YtcbgagohjjdfeaaDoor
