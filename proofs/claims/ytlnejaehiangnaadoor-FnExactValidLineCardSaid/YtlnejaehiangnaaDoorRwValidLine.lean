/- For every argument the law FnExactValidLine of the Go program returns true: ValidLine and its reference agree. Condition: that the listed tables of Go's library hold what the program's text lays; the card ties them to it. -/
import Derived.Test.YtlnejaehiangnaaDoorCmZL
import Derived.Test.YtlnejaehiangnaaDoorLnValidLine
import Derived.Test.YtlnejaehiangnaaDoorLwValidLine
import Derived.Test.YtlnejaehiangnaaDoorRows
import Derived.Test.YtlnejaehiangnaaDoorTie
import Derived.Test.YtlnejaehiangnaaDoorCards
import Derived.WalkKit
import Derived.ProofKit
import Derived.LaidMore
import Derived.OpenShut
import Derived.Lay
import Derived.LaidOnce
import Derived.Shelf.Vars
import Derived.Stop.Joined
import Derived.Stop.LaidErr
import Derived.SevenLookT
import Derived.SevenTiedAt
namespace Go.Proofs.YtlnejaehiangnaaDoor.fnExactValidLine
open Go.Cm
set_option linter.unusedVariables false
theorem own : ownKnob Tryd.prog.godebug = none := by kernel_rfl
theorem laidOut : laidOutB Tryd.prog = true := by kernel_rfl
abbrev laid : List (String × DataW Unit) := Rows.fnExactValidLineRow.laid
theorem kinds : PsOk Tryd.prog [PK.bo (Kd.st (Kd.pair (Kd.sl Kd.str) (Kd.sl Kd.str)))] Tryd.f4.params.toList := by
  rw [Tryd.params4]
  exact ⟨⟨_, Tryd.underlying27, by kernel_rfl, ⟨_, _, rfl, rfl, ⟨_, Tryd.underlying25, Tryd.underlying9, by kernel_rfl⟩, by kernel_rfl, ⟨_, rfl, rfl, ⟨_, Tryd.underlying25, Tryd.underlying9, by kernel_rfl⟩, by kernel_rfl⟩⟩⟩, by kernel_rfl, of_decide_eq_true (by kernel_rfl), trivial⟩
theorem tab : (Rows.laid_internal_strconv_uint64pow10 : DataW Unit) = Go.Lib.tabData .u64 Go.Lib.pow10Tab := by kernel_rfl
theorem rowErr (u : TypeId) (h : Tryd.prog.typeName? 3 u = some "*errors.errorString") : u = 138 :=
  have star : "*" ++ "errors.errorString" = "*errors.errorString" := by decide
  typeName_ptr_named (nm := "errors.errorString") (by rw [star]; kernel_rfl) (by kernel_rfl) (by decide) u (by rw [star]; exact h)
theorem heap_of_var {P : Program} {W : World} {n : String} {g : Nat} {cs : Array Value} (h : W.var? P n = some cs) (hg : P.globalNamed n = some g) : ∃ e z, W.heap[g]? = some (.cells cs e z) := by
  unfold World.var? at h
  rw [hg] at h
  simp only [Option.bind_some] at h
  split at h
  · rename_i cs' t z hh
    cases h
    exact ⟨t, z, hh⟩
  · cases h
/-- What the condition gives. -/
theorem of_laid {W : World} (ho : W.ShapedOpen Tryd.prog) (h : laidMetH Tryd.prog laid W) : ∃ s p q m, Laid [(3, Go.Lib.pow10Tab.map fun z => Value.int .u64 z), (1, [Value.iface s p]), (2, [Value.iface s q]), (0, [Value.int .i64 m])] W no2 := by
  obtain ⟨m, hm⟩ := Go.Proofs.cell_of_shapedOpen_int (g := 0) (zero := #[.int .i64 0]) (t := 3) ho (of_decide_eq_true (by kernel_rfl)) (by kernel_rfl) rfl (by kernel_rfl) (by kernel_rfl) Tryd.underlying3
  have hcell := int_cell (g := 0) (zero := #[.int .i64 0]) (t := 3) ho (of_decide_eq_true (by kernel_rfl)) (by kernel_rfl) rfl hm
  rw [MakeChecks.laidMetH_plain _ _ _ (by kernel_rfl)] at h
  obtain ⟨a1, _, v1, _⟩ := laid_sentinel h.tail.tail.tail (n := "strconv.ErrRange") (g := 2) (by kernel_rfl) (by kernel_rfl) Tryd.underlying95 rowErr Tryd.underlying138 Tryd.underlying140 rfl rfl Tryd.underlying9 (by kernel_rfl) (by kernel_rfl)
  obtain ⟨a2, _, v2, _⟩ := laid_sentinel h.tail.tail.tail.tail (n := "strconv.ErrSyntax") (g := 1) (by kernel_rfl) (by kernel_rfl) Tryd.underlying95 rowErr Tryd.underlying138 Tryd.underlying140 rfl rfl Tryd.underlying9 (by kernel_rfl) (by kernel_rfl)
  refine ⟨138, .pointer (some a2), .pointer (some a1), m, ?_⟩
  intro p hp
  simp only [List.mem_cons, List.mem_nil_iff, or_false] at hp
  rcases hp with rfl | rfl | rfl | rfl
  · refine ⟨?_, fun _ h => h⟩
    refine tab_laid (g := 3) (t := 148) (e := 78) (n := 20) (name := "internal/strconv.uint64pow10") h ?_ (by kernel_rfl) (by kernel_rfl) Tryd.underlying148 Tryd.underlying78 (by kernel_rfl) (by kernel_rfl)
    show _ ∈ [_, _, _, _, _]
    rw [← tab]
    simp [List.mem_cons]
  · exact ⟨heap_of_var v2 (by kernel_rfl), fun _ h => h⟩
  · exact ⟨heap_of_var v1 (by kernel_rfl), fun _ h => h⟩
  · exact ⟨hcell, fun _ h => h⟩
set_option maxRecDepth 100000 in
theorem lifted (os : Os) (started : os.Started) (H : Type) (enc : TypeId × Value → H) :
    ReturnsInHanded {} Tryd.checked os 4 .any (fun w args => (Rows.fnExactValidLineSpec.pre enc Tryd.prog Tryd.f4 [] false w args ∧ laidMetH Tryd.prog laid w) ∧ sizedMet enc Tryd.prog Tryd.f4 (OpenSpec.ofChange Rows.fnExactValidLineSpec) false w args)
      (Rows.fnExactValidLineSpec.post enc Tryd.prog Tryd.f4 false true false false) := by
  refine handed_open_sz (C := Tryd.checked) (X := fun w _ => laidMetH Tryd.prog laid w) (fun _ _ _ hh h => h.of_heap hh) own started (by kernel_rfl) Tryd.func4
    (ChangeSpec.witness_shaped (enc := enc) (C := Tryd.checked) (os := os) (X := fun w _ => laidMetH Tryd.prog laid w) false (World.laidAll Tryd.prog os laid) #[.agg #[.slice none 0 0, .slice none 0 0]] 8 (World.laidAll_os _ _ _)
      (World.shaped_of_ZipB (by kernel_rfl) (by kernel_rfl)) (by kernel_rfl) (by kernel_rfl) (by kernel_rfl)
      (by rw [MakeChecks.laidMetH_plain _ _ _ (by kernel_rfl)]; exact laidMet_laidAll _ (by kernel_rfl) (by kernel_rfl))) ?_
  intro W base args ds gs before ho hval hW hz hL
  obtain ⟨s, p, q, m, hg⟩ := of_laid ho hL
  exact law_done_sz (gl := _) laidOut (Go.Cm.LnValidLine.v_l_FnExactValidLine ⟨m, by simp⟩ ⟨s, q, by simp⟩ ⟨s, p, by simp⟩) kinds (by kernel_rfl) Tryd.underlying4 rfl
    (fun ds hl => by
      rw [Tryd.params4] at hl
      match ds, hl with
      | [d1], _ => exact ⟨rfl, rfl, rfl⟩) ValidLine_true hg hval hW hz
theorem o1 : Tryd.prog.funcNamed "loop.example/g01211/laws.FnExactValidLine" = some 4 := by kernel_rfl
theorem o2 : joinedFacts Tryd.prog 4 Tryd.f4 Rows.fnExactValidLineSpec Rows.fnExactValidLineRow = true := by kernel_rfl
theorem o3 : Tryd.f4.isInstance Tryd.prog Rows.fnExactValidLineRow.origin Rows.fnExactValidLineRow.targs := of_decide_eq_true (by kernel_rfl)
theorem o4 : Tryd.f4.isWrapper Tryd.prog Rows.fnExactValidLineRow.wrapper Rows.fnExactValidLineRow.mainSum := by unfold Func.isWrapper; first | (rw [if_pos (by decide +kernel)]; kernel_rfl) | (rw [if_neg (by decide +kernel)]; exact ⟨rfl, rfl⟩)
theorem over : Rows.fnExactValidLineRow.holds Tryd.pinned (OpenSpec.ofChange Rows.fnExactValidLineSpec) :=
  OpenClaim.holds_of_wide 4 Tryd.f4 rfl rfl rfl rfl rfl rfl rfl ⟨rfl, rfl, rfl, rfl, rfl⟩ rfl rfl rfl rfl rfl o1 Tryd.func4 o2 o3 o4
    (fun os started H enc _ => lifted os started H enc)
theorem card : Rows.FnExactValidLineCardSaid :=
  Claim7.holds_tied_plain_at .later [] [.data, .data, .data, .sentinel, .sentinel] true (true, "e5722384d141e8a6c454d9d09444e2efed27a9eee88406634b046abc74890282") true
    over (fun _ h => by cases h) (by kernel_rfl) (fun _ h => by cases h) fnExactValidLine_row_tie rfl ⟨rfl, rfl⟩ (by kernel_rfl) rfl
    (fun f fn hf hfn => by
      obtain rfl : f = 4 := Option.some.inj ((show Tryd.prog.funcNamed "loop.example/g01211/laws.FnExactValidLine" = some 4 by kernel_rfl).symm.trans hf) |>.symm
      obtain rfl : fn = Tryd.f4 := (Option.some.inj (Tryd.func4.symm.trans hfn)).symm
      exact ⟨by kernel_rfl, fun j t ht => by
        rw [Tryd.params4] at ht
        have hm : t ∈ [27] := by simpa using Array.mem_of_getElem? ht
        have hall : ([27].all fun u => !Tryd.prog.wantsStandIn u) = true := by kernel_rfl
        exact (show Tryd.prog.wantsStandIn t = false by simpa using List.all_eq_true.1 hall t hm)⟩)
    (by kernel_rfl)
#print axioms card
end Go.Proofs.YtlnejaehiangnaaDoor.fnExactValidLine
namespace Go.Proofs.YtlnejaehiangnaaDoor
/-- The card, under a short name, for the claim. -/
theorem fnExactValidLine_holds : Rows.FnExactValidLineCardSaid := fnExactValidLine.card
end Go.Proofs.YtlnejaehiangnaaDoor
