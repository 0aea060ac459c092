/- For all two chains the law FnExactSameChain of the Go program returns true: SameChain and its reference agree, and the lists stay as they were. Condition: none but that the chains can be read. -/
import Derived.Test.YtcbgagohjjdfeaaLnA3
import Derived.Test.YtcbgagohjjdfeaaLwSameChain
import Derived.Test.YtcbgagohjjdfeaaRows
import Derived.WalkKit
import Derived.ProofKit
import Derived.OpenShut
import Derived.ChangeOld
import Derived.Below
import Derived.SizedLaws
namespace Go.Proofs.Ytcbgagohjjdfeaa.fnExactSameChain
open Go.Cm
set_option linter.unusedVariables false
theorem own : ownKnob Try.prog.godebug = none := by kernel_rfl
theorem laidOut : laidOutB Try.prog = true := by kernel_rfl
theorem kinds : PsOk Try.prog [PK.bo (Kd.st (Kd.sl (Kd.sl Kd.str))), PK.bo (Kd.st (Kd.sl (Kd.sl Kd.str)))] Try.f7.params.toList := by
  rw [Try.params7]
  have k : (TKF Try.prog (Kd.st (Kd.sl (Kd.sl Kd.str)))).1 37 := ⟨_, Try.underlying37, by kernel_rfl, ⟨_, rfl, rfl, ⟨_, Try.underlying35, ⟨_, Try.underlying27, Try.underlying9, by kernel_rfl⟩, by kernel_rfl⟩, by kernel_rfl⟩⟩
  exact ⟨k, by kernel_rfl, of_decide_eq_true (by kernel_rfl), k, by kernel_rfl, of_decide_eq_true (by kernel_rfl), trivial⟩
set_option maxRecDepth 100000 in
theorem lifted (os : Os) (started : os.Started) (H : Type) (enc : TypeId × Value → H) :
    ReturnsInHanded {} Try.checked os 7 .any (Rows.fnExactSameChainSpec.pre6 enc Try.prog Try.f7 Rows.fnExactSameChainRow.domain false) (Rows.fnExactSameChainSpec.post enc Try.prog Try.f7 false true false false) := by
  refine returnsInHanded_of_change_sized (C := Try.checked) own started (by kernel_rfl) Try.func7
    (ChangeSpec.witness6 (enc := enc) (C := Try.checked) false ⟨#[], #[.agg #[.slice none 0 0], .agg #[.slice none 0 0]], []⟩ 8 (by kernel_rfl) (by kernel_rfl) (by kernel_rfl) (by kernel_rfl)) ?_
  intro W base args ds gs before hval hW _ _ _
  exact law_done (gl := []) laidOut Go.Cm.LnA3.v_l_FnExactSameChain kinds (by kernel_rfl) Try.underlying4 rfl
    (fun ds hl => by
      rw [Try.params7] at hl
      match ds, hl with
      | [d1, d2], _ => exact ⟨rfl, rfl, rfl⟩) SameChain_true (fun p hp => by cases hp) hval hW
theorem over : Rows.fnExactSameChainRow.holds Try.pinned (OpenSpec.ofChange Rows.fnExactSameChainSpec) :=
  OpenClaim.holds_of_wide 7 Try.f7 rfl rfl rfl rfl rfl rfl rfl ⟨rfl, rfl, rfl, rfl, rfl⟩ rfl rfl rfl rfl rfl (by kernel_rfl) Try.func7 (by kernel_rfl)
    (of_decide_eq_true (by kernel_rfl)) (by unfold Func.isWrapper; first | (rw [if_pos (by decide +kernel)]; kernel_rfl) | (rw [if_neg (by decide +kernel)]; exact ⟨rfl, rfl⟩))
    (fun os started H enc _ => lifted os started H enc)
theorem proved : Rows.FnExactSameChainSaid := over
#print axioms proved
end Go.Proofs.Ytcbgagohjjdfeaa.fnExactSameChain
namespace Go.Proofs.Ytcbgagohjjdfeaa
/-- The row, under a short name, for the claim. -/
theorem fnExactSameChain_holds : Rows.FnExactSameChainSaid := fnExactSameChain.proved
end Go.Proofs.Ytcbgagohjjdfeaa
