/- For every argument the law FnExactLumpChain of the Go program returns true: LumpChain and its reference agree. Condition: that the listed tables of Go's library hold what the program's text lays; the card ties them to it. -/
import Derived.Test.YtdpljomfkoojnaaGreatDoorCmZL
import Derived.Test.YtdpljomfkoojnaaGreatDoorLnLumpChain
import Derived.Test.YtdpljomfkoojnaaGreatDoorLwLumpChain
import Derived.Test.YtdpljomfkoojnaaGreatDoorRoLumpChain
import Derived.Test.YtdpljomfkoojnaaGreatDoorRows
import Derived.Test.YtdpljomfkoojnaaGreatDoorTie
import Derived.Test.YtdpljomfkoojnaaGreatDoorCards
import Derived.WalkKit
import Derived.ProofKit
import Derived.LaidMore
import Derived.OpenShut
import Derived.Lay
import Derived.LaidOnce
import Derived.Shelf.Vars
import Derived.Stop.Joined
import Derived.Stop.LaidErr
import Derived.SevenLookT
import Derived.SevenTiedAt
namespace Go.Proofs.YtdpljomfkoojnaaGreatDoor.fnExactLumpChain
open Go.Cm
set_option linter.unusedVariables false
theorem own : ownKnob Tryz.prog.godebug = none := by kernel_rfl
theorem laidOut : laidOutB Tryz.prog = true := by kernel_rfl
abbrev laid : List (String × DataW Unit) := Rows.fnExactLumpChainRow.laid
theorem kinds : PsOk Tryz.prog [PK.bo (Kd.st (Kd.sl (Kd.sl Kd.str))), PK.bo (Kd.sl (Kd.int IntKind.i64))] Tryz.f11.params.toList := by
  rw [Tryz.params11]
  exact ⟨⟨_, Tryz.underlying24, by kernel_rfl, ⟨_, rfl, rfl, ⟨_, Tryz.underlying22, ⟨_, Tryz.underlying36, Tryz.underlying9, by kernel_rfl⟩, by kernel_rfl⟩, by kernel_rfl⟩⟩, by kernel_rfl, of_decide_eq_true (by kernel_rfl), ⟨_, Tryz.underlying26, Tryz.underlying2, by kernel_rfl⟩, by kernel_rfl, of_decide_eq_true (by kernel_rfl), trivial⟩
theorem tab : (Rows.laid_internal_strconv_uint64pow10 : DataW Unit) = Go.Lib.tabData .u64 Go.Lib.pow10Tab := by kernel_rfl
theorem rowErr (u : TypeId) (h : Tryz.prog.typeName? 3 u = some "*errors.errorString") : u = 278 :=
  have star : "*" ++ "errors.errorString" = "*errors.errorString" := by decide
  typeName_ptr_named (nm := "errors.errorString") (by rw [star]; kernel_rfl) (by kernel_rfl) (by decide) u (by rw [star]; exact h)
theorem heap_of_var {P : Program} {W : World} {n : String} {g : Nat} {cs : Array Value} (h : W.var? P n = some cs) (hg : P.globalNamed n = some g) : ∃ e z, W.heap[g]? = some (.cells cs e z) := by
  unfold World.var? at h
  rw [hg] at h
  simp only [Option.bind_some] at h
  split at h
  · rename_i cs' t z hh
    cases h
    exact ⟨t, z, hh⟩
  · cases h
/-- What the condition gives. -/
theorem of_laid {W : World} (ho : W.ShapedOpen Tryz.prog) (h : laidMetH Tryz.prog laid W) : ∃ s p q m, Laid [(3, Go.Lib.pow10Tab.map fun z => Value.int .u64 z), (1, [Value.iface s p]), (2, [Value.iface s q]), (0, [Value.int .i64 m])] W no2 := by
  obtain ⟨m, hm⟩ := Go.Proofs.cell_of_shapedOpen_int (g := 0) (zero := #[.int .i64 0]) (t := 3) ho (of_decide_eq_true (by kernel_rfl)) (by kernel_rfl) rfl (by kernel_rfl) (by kernel_rfl) Tryz.underlying3
  have hcell := int_cell (g := 0) (zero := #[.int .i64 0]) (t := 3) ho (of_decide_eq_true (by kernel_rfl)) (by kernel_rfl) rfl hm
  rw [MakeChecks.laidMetH_plain _ _ _ (by kernel_rfl)] at h
  obtain ⟨a1, _, v1, _⟩ := laid_sentinel h.tail.tail.tail (n := "strconv.ErrRange") (g := 2) (by kernel_rfl) (by kernel_rfl) Tryz.underlying224 rowErr Tryz.underlying278 Tryz.underlying280 rfl rfl Tryz.underlying9 (by kernel_rfl) (by kernel_rfl)
  obtain ⟨a2, _, v2, _⟩ := laid_sentinel h.tail.tail.tail.tail (n := "strconv.ErrSyntax") (g := 1) (by kernel_rfl) (by kernel_rfl) Tryz.underlying224 rowErr Tryz.underlying278 Tryz.underlying280 rfl rfl Tryz.underlying9 (by kernel_rfl) (by kernel_rfl)
  refine ⟨278, .pointer (some a2), .pointer (some a1), m, ?_⟩
  intro p hp
  simp only [List.mem_cons, List.mem_nil_iff, or_false] at hp
  rcases hp with rfl | rfl | rfl | rfl
  · refine ⟨?_, fun _ h => h⟩
    refine tab_laid (g := 3) (t := 271) (e := 194) (n := 20) (name := "internal/strconv.uint64pow10") h ?_ (by kernel_rfl) (by kernel_rfl) Tryz.underlying271 Tryz.underlying194 (by kernel_rfl) (by kernel_rfl)
    show _ ∈ [_, _, _, _, _]
    rw [← tab]
    simp [List.mem_cons]
  · exact ⟨heap_of_var v2 (by kernel_rfl), fun _ h => h⟩
  · exact ⟨heap_of_var v1 (by kernel_rfl), fun _ h => h⟩
  · exact ⟨hcell, fun _ h => h⟩
set_option maxRecDepth 100000 in
theorem lifted (os : Os) (started : os.Started) (H : Type) (enc : TypeId × Value → H) :
    ReturnsInHanded {} Tryz.checked os 11 .any (fun w args => (Rows.fnExactLumpChainSpec.pre enc Tryz.prog Tryz.f11 [] false w args ∧ laidMetH Tryz.prog laid w) ∧ sizedMet enc Tryz.prog Tryz.f11 (OpenSpec.ofChange Rows.fnExactLumpChainSpec) false w args)
      (Rows.fnExactLumpChainSpec.post enc Tryz.prog Tryz.f11 false true false false) := by
  refine handed_open_sz (C := Tryz.checked) (X := fun w _ => laidMetH Tryz.prog laid w) (fun _ _ _ hh h => h.of_heap hh) own started (by kernel_rfl) Tryz.func11
    (ChangeSpec.witness_shaped (enc := enc) (C := Tryz.checked) (os := os) (X := fun w _ => laidMetH Tryz.prog laid w) false (World.laidAll Tryz.prog os laid) #[.agg #[.slice none 0 0], .slice none 0 0] 8 (World.laidAll_os _ _ _)
      (World.shaped_of_ZipB (by kernel_rfl) (by kernel_rfl)) (by kernel_rfl) (by kernel_rfl) (by kernel_rfl)
      (by rw [MakeChecks.laidMetH_plain _ _ _ (by kernel_rfl)]; exact laidMet_laidAll _ (by kernel_rfl) (by kernel_rfl))) ?_
  intro W base args ds gs before ho hval hW hz hL
  obtain ⟨s, p, q, m, hg⟩ := of_laid ho hL
  exact law_done_sz (gl := _) laidOut (Go.Cm.LnLumpChain.v_l_FnExactLumpChain ⟨m, by simp⟩ (by simp [Go.Cm.LnLumpChain.InP]) ⟨s, q, by simp⟩ ⟨s, p, by simp⟩) kinds (by kernel_rfl) Tryz.underlying4 rfl
    (fun ds hl => by
      rw [Tryz.params11] at hl
      match ds, hl with
      | [d1, d2], _ => exact ⟨rfl, rfl, rfl⟩) (fun x h hz hl => LumpChain_true x h hz (by
        have q := hl.1 _ _ _ Tryz.underlying24 rfl Tryz.underlying22
        have e : Tryz.prog.bytesOf 36 = 24 := by kernel_rfl
        rw [e] at q
        have m : reachBytes ≤ 1000000000000000 := by decide
        omega) (by
        have q := hl.2.1 _ Tryz.underlying26
        have e : Tryz.prog.bytesOf 2 = 8 := by kernel_rfl
        rw [e] at q
        have m : reachBytes ≤ 1000000000000000 := by decide
        omega)) hg hval hW hz
theorem over : Rows.fnExactLumpChainRow.holds Tryz.pinned (OpenSpec.ofChange Rows.fnExactLumpChainSpec) :=
  OpenClaim.holds_of_wide 11 Tryz.f11 rfl rfl rfl rfl rfl rfl rfl ⟨rfl, rfl, rfl, rfl, rfl⟩ rfl rfl rfl rfl rfl o1 Tryz.func11 o2 o3 o4
    (fun os started H enc _ => lifted os started H enc)
theorem card : Rows.FnExactLumpChainCardSaid :=
  Claim7.holds_tied_plain_at .later [] [.data, .data, .data, .sentinel, .sentinel] true (true, "4e76080c7fe53ee1b9a62e2368db6c540a83790eabf8fb8b42a737690d148f39") true
    over (fun _ h => by cases h) o9 (fun _ h => by cases h) fnExactLumpChain_row_tie rfl ⟨rfl, rfl⟩ o5 rfl
    (fun f fn hf hfn => by
      obtain rfl : f = 11 := Option.some.inj (o1.symm.trans hf) |>.symm
      obtain rfl : fn = Tryz.f11 := (Option.some.inj (Tryz.func11.symm.trans hfn)).symm
      exact ⟨o6, fun j t ht => by
        rw [Tryz.params11] at ht
        have hm : t ∈ [24, 26] := by simpa using Array.mem_of_getElem? ht
        exact (show Tryz.prog.wantsStandIn t = false by simpa using List.all_eq_true.1 o7 t hm)⟩)
    o8
#print axioms card
end Go.Proofs.YtdpljomfkoojnaaGreatDoor.fnExactLumpChain
namespace Go.Proofs.YtdpljomfkoojnaaGreatDoor
/-- The card, under a short name, for the claim. -/
theorem fnExactLumpChain_holds : Rows.FnExactLumpChainCardSaid := fnExactLumpChain.card
end Go.Proofs.YtdpljomfkoojnaaGreatDoor
