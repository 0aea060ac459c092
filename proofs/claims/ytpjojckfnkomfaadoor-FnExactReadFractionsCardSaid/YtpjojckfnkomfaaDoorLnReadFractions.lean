import Derived.Test.YtpjojckfnkomfaaDoorPlReadFractions
import Derived.Test.YtpjojckfnkomfaaDoorChecked
import Derived.Test.YtpjojckfnkomfaaDoorTrydShelf
import Derived.WalkKit
import Derived.BigCall
import Derived.BigGuard
import Derived.Lib.ItoaMem
import Derived.Lib.AppendIntMem
set_option linter.unusedVariables false
set_option maxRecDepth 100000
noncomputable section
namespace Go.Cm.LnReadFractions
open Go.RowKit
variable {gl : List (Nat × List Value)}
theorem td2 : TdOk Go.Proofs.Tryd.prog 2 ⟨Kd.int IntKind.i64, 8, false, 0, []⟩ := .of (by kernel_rfl) (.inr (by kernel_rfl)) rfl (Go.Proofs.Tryd.underlying2)
theorem td3 : TdOk Go.Proofs.Tryd.prog 3 ⟨Kd.int IntKind.i64, 8, false, 0, []⟩ := .of (by kernel_rfl) (.inr (by kernel_rfl)) rfl (Go.Proofs.Tryd.underlying3)
theorem td4 : TdOk Go.Proofs.Tryd.prog 4 ⟨Kd.bool, 1, false, 0, []⟩ := .of (by kernel_rfl) (.inr (by kernel_rfl)) rfl (Go.Proofs.Tryd.underlying4)
theorem td5 : TdOk Go.Proofs.Tryd.prog 5 ⟨Kd.int IntKind.u8, 1, false, 0, []⟩ := .of (by kernel_rfl) (.inr (by kernel_rfl)) rfl (Go.Proofs.Tryd.underlying5)
theorem td9 : TdOk Go.Proofs.Tryd.prog 9 ⟨Kd.str, 16, false, 0, []⟩ := .of (by kernel_rfl) (.inr (by kernel_rfl)) rfl (Go.Proofs.Tryd.underlying9)
theorem td22 : TdOk Go.Proofs.Tryd.prog 22 ⟨Kd.sl Kd.str, 24, false, 9, []⟩ := .of (by kernel_rfl) (.inr (by kernel_rfl)) rfl (Go.Proofs.Tryd.underlying22)
theorem td32 : TdOk Go.Proofs.Tryd.prog 32 ⟨Kd.sl (Kd.st (Kd.pair Kd.bool (Kd.pair (Kd.sl (Kd.int IntKind.i64)) (Kd.sl (Kd.int IntKind.i64))))), 24, false, 44, []⟩ := .of (by kernel_rfl) (.inr (by kernel_rfl)) rfl (Go.Proofs.Tryd.underlying32)
theorem td37 : TdOk Go.Proofs.Tryd.prog 37 ⟨Kd.sl (Kd.st (Kd.pair Kd.bool (Kd.pair (Kd.sl (Kd.int IntKind.u32)) (Kd.sl (Kd.int IntKind.u32))))), 24, false, 50, []⟩ := .of (by kernel_rfl) (.inr (by kernel_rfl)) rfl (Go.Proofs.Tryd.underlying37)
theorem td42 : TdOk Go.Proofs.Tryd.prog 42 ⟨Kd.sl (Kd.int IntKind.i64), 24, false, 2, []⟩ := .of (by kernel_rfl) (.inr (by kernel_rfl)) rfl (Go.Proofs.Tryd.underlying42)
theorem td44 : TdOk Go.Proofs.Tryd.prog 44 ⟨Kd.st (Kd.pair Kd.bool (Kd.pair (Kd.sl (Kd.int IntKind.i64)) (Kd.sl (Kd.int IntKind.i64)))), 56, true, 0, [(0, 4), (1, 42), (2, 42)]⟩ := .of (by kernel_rfl) (.inr (by kernel_rfl)) rfl (⟨_, Go.Proofs.Tryd.underlying44, by kernel_rfl, by kernel_rfl⟩)
theorem td48 : TdOk Go.Proofs.Tryd.prog 48 ⟨Kd.sl (Kd.int IntKind.u32), 24, false, 84, []⟩ := .of (by kernel_rfl) (.inr (by kernel_rfl)) rfl (Go.Proofs.Tryd.underlying48)
theorem td50 : TdOk Go.Proofs.Tryd.prog 50 ⟨Kd.st (Kd.pair Kd.bool (Kd.pair (Kd.sl (Kd.int IntKind.u32)) (Kd.sl (Kd.int IntKind.u32)))), 56, true, 0, [(0, 4), (1, 48), (2, 48)]⟩ := .of (by kernel_rfl) (.inr (by kernel_rfl)) rfl (⟨_, Go.Proofs.Tryd.underlying50, by kernel_rfl, by kernel_rfl⟩)
theorem td56 : TdOk Go.Proofs.Tryd.prog 56 ⟨Kd.sl (Kd.int IntKind.u8), 24, false, 5, []⟩ := .of (by kernel_rfl) (.inr (by kernel_rfl)) rfl (Go.Proofs.Tryd.underlying56)
theorem td66 : TdOk Go.Proofs.Tryd.prog 66 ⟨Kd.int IntKind.u64, 8, false, 0, []⟩ := .of (by kernel_rfl) (.inr (by kernel_rfl)) rfl (Go.Proofs.Tryd.underlying66)
theorem td74 : TdOk Go.Proofs.Tryd.prog 74 ⟨Kd.er, 16, false, 0, []⟩ := .of (by kernel_rfl) (.inr (by kernel_rfl)) rfl (⟨_, Go.Proofs.Tryd.underlying74⟩)
theorem td84 : TdOk Go.Proofs.Tryd.prog 84 ⟨Kd.int IntKind.u32, 4, false, 0, []⟩ := .of (by kernel_rfl) (.inr (by kernel_rfl)) rfl (Go.Proofs.Tryd.underlying84)
theorem td85 : TdOk Go.Proofs.Tryd.prog 85 ⟨Kd.int IntKind.u64, 8, false, 0, []⟩ := .of (by kernel_rfl) (.inr (by kernel_rfl)) rfl (Go.Proofs.Tryd.underlying85)
def td : List (Nat × Td) := [(2, ⟨Kd.int IntKind.i64, 8, false, 0, []⟩), (3, ⟨Kd.int IntKind.i64, 8, false, 0, []⟩), (4, ⟨Kd.bool, 1, false, 0, []⟩), (5, ⟨Kd.int IntKind.u8, 1, false, 0, []⟩), (9, ⟨Kd.str, 16, false, 0, []⟩), (22, ⟨Kd.sl Kd.str, 24, false, 9, []⟩), (32, ⟨Kd.sl (Kd.st (Kd.pair Kd.bool (Kd.pair (Kd.sl (Kd.int IntKind.i64)) (Kd.sl (Kd.int IntKind.i64))))), 24, false, 44, []⟩), (37, ⟨Kd.sl (Kd.st (Kd.pair Kd.bool (Kd.pair (Kd.sl (Kd.int IntKind.u32)) (Kd.sl (Kd.int IntKind.u32))))), 24, false, 50, []⟩), (42, ⟨Kd.sl (Kd.int IntKind.i64), 24, false, 2, []⟩), (44, ⟨Kd.st (Kd.pair Kd.bool (Kd.pair (Kd.sl (Kd.int IntKind.i64)) (Kd.sl (Kd.int IntKind.i64)))), 56, true, 0, [(0, 4), (1, 42), (2, 42)]⟩), (48, ⟨Kd.sl (Kd.int IntKind.u32), 24, false, 84, []⟩), (50, ⟨Kd.st (Kd.pair Kd.bool (Kd.pair (Kd.sl (Kd.int IntKind.u32)) (Kd.sl (Kd.int IntKind.u32)))), 56, true, 0, [(0, 4), (1, 48), (2, 48)]⟩), (56, ⟨Kd.sl (Kd.int IntKind.u8), 24, false, 5, []⟩), (66, ⟨Kd.int IntKind.u64, 8, false, 0, []⟩), (74, ⟨Kd.er, 16, false, 0, []⟩), (84, ⟨Kd.int IntKind.u32, 4, false, 0, []⟩), (85, ⟨Kd.int IntKind.u64, 8, false, 0, []⟩)]
theorem tdOk : TdsOk ⟨Go.Proofs.Tryd.prog, td, [], [], []⟩ Go.Proofs.Tryd.prog := tdsCons td2 (tdsCons td3 (tdsCons td4 (tdsCons td5 (tdsCons td9 (tdsCons td22 (tdsCons td32 (tdsCons td37 (tdsCons td42 (tdsCons td44 (tdsCons td48 (tdsCons td50 (tdsCons td56 (tdsCons td66 (tdsCons td74 (tdsCons td84 (tdsCons td85 (tdsNil _ _ _ _)))))))))))))))))
theorem mixed : Go.Proofs.Tryd.prog.follows .mixedOrders = true := by kernel_rfl
/-- Package-level variables that are laid. -/
def InP (gl : List (Nat × List Value)) : Prop := (5, Go.Lib.pow10Tab.map fun z => Value.int .u64 z) ∈ gl
def InM (gl : List (Nat × List Value)) : Prop := ∃ m, (0, [Value.int .i64 m]) ∈ gl
def InS (gl : List (Nat × List Value)) : Prop := ∃ t p, (1, [Value.iface t p]) ∈ gl
def InR (gl : List (Nat × List Value)) : Prop := ∃ t p, (2, [Value.iface t p]) ∈ gl
def ct_l_eqStringS : Ct := ⟨[PK.bo (Kd.sl Kd.str), PK.bo (Kd.sl Kd.str)], false, [(false, [RC.ro Kd.bool])], S.l_eqStringS⟩
theorem v_l_eqStringS : Valid Go.Proofs.Tryd.prog gl 12 ct_l_eqStringS := by
  refine Valid.less (ps := [PK.bo (Kd.sl Kd.str), PK.bo (Kd.sl Kd.str)]) (tup := false) (rs := [(false, [RC.ro Kd.bool])]) (g := P.l_eqStringS) (fun k => valid (fx := ⟨⟨Go.Proofs.Tryd.prog, td, [], [], []⟩, k, [(4, [(5, Sp.dat false (Kd.int IntKind.i64)), (0, Sp.dat true (Kd.sl Kd.str)), (1, Sp.dat true (Kd.sl Kd.str))])]⟩) (fn := Go.Proofs.Tryd.f12) (c := Go.Proofs.Tryd.f12.body.getD .skip) mixed tdOk (ctsNil _ _ _ _ _) Go.Proofs.Tryd.func12 (by kernel_rfl) (by kernel_rfl) (fun x => ?_)) S.l_eqStringS_ok
  kernel_rfl
def ct_l_markText : Ct := ⟨[PK.ro (Kd.int IntKind.i64)], false, [(false, [RC.ro Kd.str])], S.l_markText⟩
theorem v_l_markText : Valid Go.Proofs.Tryd.prog gl 22 ct_l_markText := by
  refine Valid.less (ps := [PK.ro (Kd.int IntKind.i64)]) (tup := false) (rs := [(false, [RC.ro Kd.str])]) (g := P.l_markText) (fun k => valid (fx := ⟨⟨Go.Proofs.Tryd.prog, td, [], [], []⟩, k, [(4, [(0, Sp.dat false (Kd.int IntKind.i64)), (3, Sp.dat false Kd.str)])]⟩) (fn := Go.Proofs.Tryd.f22) (c := Go.Proofs.Tryd.f22.body.getD .skip) mixed tdOk (ctsNil _ _ _ _ _) Go.Proofs.Tryd.func22 (by kernel_rfl) (by kernel_rfl) (fun x => ?_)) S.l_markText_ok
  kernel_rfl
def ct_l_markStringS : Ct := ⟨[PK.mu Kd.str, PK.ro (Kd.int IntKind.i64)], false, [(false, [RC.ro (Kd.int IntKind.i64)])], S.l_markStringS⟩
theorem v_l_markStringS : Valid Go.Proofs.Tryd.prog gl 13 ct_l_markStringS := by
  refine Valid.less (ps := [PK.mu Kd.str, PK.ro (Kd.int IntKind.i64)]) (tup := false) (rs := [(false, [RC.ro (Kd.int IntKind.i64)])]) (g := P.l_markStringS) (fun k => valid (fx := ⟨⟨Go.Proofs.Tryd.prog, td, [(22, ct_l_markText)], [], []⟩, k, [(2, [(5, Sp.dat false (Kd.int IntKind.i64)), (0, Sp.own (0) false Kd.str), (1, Sp.dat false (Kd.int IntKind.i64))])]⟩) (fn := Go.Proofs.Tryd.f13) (c := Go.Proofs.Tryd.f13.body.getD .skip) mixed tdOk (ctsCons v_l_markText (ctsNil _ _ _ _ _)) Go.Proofs.Tryd.func13 (by kernel_rfl) (by kernel_rfl) (fun x => ?_)) S.l_markStringS_ok
  kernel_rfl
def ct_l_heldStringS : Ct := ⟨[PK.bo (Kd.sl Kd.str), PK.ro (Kd.int IntKind.i64)], false, [(false, [RC.ro (Kd.int IntKind.i64)])], S.l_heldStringS⟩
theorem v_l_heldStringS : Valid Go.Proofs.Tryd.prog gl 14 ct_l_heldStringS := by
  refine Valid.less (ps := [PK.bo (Kd.sl Kd.str), PK.ro (Kd.int IntKind.i64)]) (tup := false) (rs := [(false, [RC.ro (Kd.int IntKind.i64)])]) (g := P.l_heldStringS) (fun k => valid (fx := ⟨⟨Go.Proofs.Tryd.prog, td, [(22, ct_l_markText)], [], []⟩, k, [(2, [(5, Sp.dat false (Kd.int IntKind.i64)), (0, Sp.dat true (Kd.sl Kd.str)), (1, Sp.dat false (Kd.int IntKind.i64))])]⟩) (fn := Go.Proofs.Tryd.f14) (c := Go.Proofs.Tryd.f14.body.getD .skip) mixed tdOk (ctsCons v_l_markText (ctsNil _ _ _ _ _)) Go.Proofs.Tryd.func14 (by kernel_rfl) (by kernel_rfl) (fun x => ?_)) S.l_heldStringS_ok
  kernel_rfl
def ct_strings_Split : Ct := ⟨[PK.ro Kd.str, PK.ro Kd.str], false, [(false, [RC.own Kd.str])], S.strings_Split⟩
theorem v_strings_Split (hM : InM gl) : Valid Go.Proofs.Tryd.prog gl 27 ct_strings_Split := by
  refine ⟨enters_of Go.Proofs.Tryd.func27 (by kernel_rfl) (by kernel_rfl), fun w M0 W0 us x γ hM0 hW hl ha hd r hr => ?_⟩
  obtain ⟨s, b, q⟩ := x
  obtain ⟨u1, _, rfl, ⟨c1, h1, h1'⟩, u2, _, rfl, ⟨c2, h2, h2'⟩, rfl⟩ := ha
  cases h1'; cases h2'; subst h1; subst h2
  unfold ct_strings_Split S.strings_Split at hr
  dsimp only at hr
  split at hr
  case isFalse => cases hr
  rename_i hc
  obtain ⟨hb, hs⟩ := hc
  cases hr
  obtain ⟨m, hm⟩ := hM
  have hcell : w.cell? ⟨0, 0, none⟩ = some (.int .i64 m) := laid_cell hl hm
  refine (Go.Proofs.Tryd.strings_Split s b m w hs hcell hb).mono ?_
  rintro e w' ⟨rfl, rfl⟩
  have hlen : (Lib.splitB b 0 (Lib.countB s b) s).length = Lib.countB s b + 1 := Lib.splitB_all b hb 0 _ s rfl
  generalize hxs : Lib.splitB b 0 (Lib.countB s b) s = xs at hlen ⊢
  have hno : ∀ (b o : Nat), ¬ fp (AO.no) (CO.no) b o := fun b o hf => hf
  have hz : (Kd.str).sz = 1 := rfl
  refine ⟨[_], rfl, fr_of_below ((Below.refl _ w).alloc (Nat.le_refl _) _), fun j => if j = 0 then (.arr true false .str xs, .arr (some (w.heap.size, 0)) xs.length xs.length) else (.no, .no), ?_, ?_, ?_, trivial⟩
  · intro j b' o hf
    by_cases hj : j = 0
    · subst hj
      simp only [if_true] at hf
      exact ⟨by simp [ct_strings_Split, ownR, ownS], by rw [hf.1]; exact Nat.le_refl _⟩
    · simp only [hj, if_false] at hf
      exact (hno _ _ hf).elim
  · intro j j' b' o hne hf hf'
    by_cases hj : j = 0
    · by_cases hj' : j' = 0
      · exact hne (hj.trans hj'.symm)
      · simp only [hj', if_false] at hf'
        exact hno _ _ hf'
    · simp only [hj, if_false] at hf
      exact hno _ _ hf
  · refine ⟨[_], rfl, fun _ => rfl, _, some (w.heap.size, 0), xs.length, xs.length, rfl, by simp only [if_true], ?_, ⟨_, by rw [← hlen], Nat.le_refl _, fun _ => ⟨_, _, rfl, rfl⟩⟩⟩
    simp only [if_true]
    refine ⟨⟨Nat.le_refl _, fun _ => rfl⟩, Nat.le_refl _, fun _ => rfl, (fun h => by cases h), ?_⟩
    rintro b' o' hbo
    cases hbo
    refine ⟨fun i y hy => ⟨[.string y], rfl, fun j v hv => ?_, fun h => by cases h⟩, fun _ j hj => ⟨?_, World.frozen?_alloc_at _ _ _ _ rfl⟩⟩
    · have hj : j = 0 := by
        by_cases hj : j = 0
        · exact hj
        · rw [List.getElem?_eq_none (by simp; omega)] at hv
          cases hv
      subst hj
      cases hv
      rw [World.cell?_alloc_at _ _ _ _ rfl, hz]
      simp [hy]
    · rw [hz, Nat.mul_one] at hj
      rw [World.cell?_alloc_at _ _ _ _ rfl]
      exact ⟨.string xs[j], by simp [hj]⟩

def ct_i_parted : Ct := ⟨[PK.ro Kd.str], false, [(false, [RC.own Kd.str])], S.i_parted⟩
theorem v_i_parted (hM : InM gl) : Valid Go.Proofs.Tryd.prog gl 21 ct_i_parted := by
  refine Valid.less (ps := [PK.ro Kd.str]) (tup := false) (rs := [(false, [RC.own Kd.str])]) (g := P.i_parted) (fun k => valid (fx := ⟨⟨Go.Proofs.Tryd.prog, td, [(27, ct_strings_Split)], [], []⟩, k, []⟩) (fn := Go.Proofs.Tryd.f21) (c := Go.Proofs.Tryd.f21.body.getD .skip) mixed tdOk (ctsCons (v_strings_Split hM) (ctsNil _ _ _ _ _)) Go.Proofs.Tryd.func21 (by kernel_rfl) (by kernel_rfl) (fun x => ?_)) S.i_parted_ok
  kernel_rfl
def ct_strings_Cut : Ct := ⟨[PK.ro Kd.str, PK.ro Kd.str], true, [(false, [RC.ro Kd.str]), (false, [RC.ro Kd.str]), (false, [RC.ro Kd.bool])], S.strings_Cut⟩
theorem v_strings_Cut (hM : InM gl) : Valid Go.Proofs.Tryd.prog gl 32 ct_strings_Cut := by
  refine told_flat (enters_of Go.Proofs.Tryd.func32 (by kernel_rfl) (by kernel_rfl)) (fun _ _ _ _ _ _ => trivial) (fun w M0 W0 us x γ hl hW ha r hr => ?_)
  obtain ⟨s, b, q⟩ := x
  obtain ⟨u1, _, rfl, ⟨c1, h1, h1'⟩, u2, _, rfl, ⟨c2, h2, h2'⟩, rfl⟩ := ha
  cases h1'; cases h2'; subst h1; subst h2
  unfold S.strings_Cut at hr
  split at hr
  case isFalse => cases hr
  rename_i hc
  cases hr
  obtain ⟨m, hm⟩ := hM
  refine (Go.Proofs.Tryd.strings_Cut s b m w hc (laid_cell hl hm)).mono ?_
  rintro e w' ⟨rfl, n, rfl⟩
  exact ⟨[_, _, _], rfl, ⟨rfl, rfl, rfl, Nat.le_refl _, fun _ _ => rfl⟩, fun M' => ⟨[_], [_, _], rfl, fun _ => rfl, rfl, [_], [_], rfl, fun _ => rfl, rfl, [_], rfl, fun _ => rfl, rfl⟩⟩

def ct_strings_CutPrefix : Ct := ⟨[PK.ro Kd.str, PK.ro Kd.str], true, [(false, [RC.ro Kd.str]), (false, [RC.ro Kd.bool])], S.strings_CutPrefix⟩
theorem v_strings_CutPrefix : Valid Go.Proofs.Tryd.prog gl 33 ct_strings_CutPrefix := by
  refine told_flat (enters_of Go.Proofs.Tryd.func33 (by kernel_rfl) (by kernel_rfl)) (fun _ _ _ _ _ _ => trivial) (fun w M0 W0 us x γ hl hW ha r hr => ?_)
  obtain ⟨s, b, q⟩ := x
  obtain ⟨u1, _, rfl, ⟨c1, h1, h1'⟩, u2, _, rfl, ⟨c2, h2, h2'⟩, rfl⟩ := ha
  cases h1'; cases h2'; subst h1; subst h2
  cases hr
  refine (Go.Proofs.Tryd.strings_CutPrefix s b w).mono ?_
  rintro e w' ⟨rfl, rfl⟩
  exact ⟨[_, _], rfl, Below.refl _ _, fun M' => ⟨[_], [_], rfl, fun _ => rfl, rfl, [_], rfl, fun _ => rfl, rfl⟩⟩

def ct_i_nat_trim : Ct := ⟨[PK.ro (Kd.sl (Kd.int IntKind.u32))], false, [(false, [RC.ro (Kd.sl (Kd.int IntKind.u32))])], S.i_nat_trim⟩
theorem v_i_nat_trim : Valid Go.Proofs.Tryd.prog gl 49 ct_i_nat_trim := by
  refine Valid.less (ps := [PK.ro (Kd.sl (Kd.int IntKind.u32))]) (tup := false) (rs := [(false, [RC.ro (Kd.sl (Kd.int IntKind.u32))])]) (g := P.i_nat_trim) (fun k => valid (fx := ⟨⟨Go.Proofs.Tryd.prog, td, [], [], []⟩, k, [(1, [(0, Sp.dat false (Kd.sl (Kd.int IntKind.u32)))])]⟩) (fn := Go.Proofs.Tryd.f49) (c := Go.Proofs.Tryd.f49.body.getD .skip) mixed tdOk (ctsNil _ _ _ _ _) Go.Proofs.Tryd.func49 (by kernel_rfl) (by kernel_rfl) (fun x => ?_)) S.i_nat_trim_ok
  kernel_rfl
def ct_i_natOf : Ct := ⟨[PK.ro (Kd.int IntKind.u64)], false, [(false, [RC.ro (Kd.sl (Kd.int IntKind.u32))])], S.i_natOf⟩
theorem v_i_natOf : Valid Go.Proofs.Tryd.prog gl 35 ct_i_natOf := by
  refine Valid.less (ps := [PK.ro (Kd.int IntKind.u64)]) (tup := false) (rs := [(false, [RC.ro (Kd.sl (Kd.int IntKind.u32))])]) (g := P.i_natOf) (fun k => valid (fx := ⟨⟨Go.Proofs.Tryd.prog, td, [(49, ct_i_nat_trim)], [], []⟩, k, []⟩) (fn := Go.Proofs.Tryd.f35) (c := Go.Proofs.Tryd.f35.body.getD .skip) mixed tdOk (ctsCons v_i_nat_trim (ctsNil _ _ _ _ _)) Go.Proofs.Tryd.func35 (by kernel_rfl) (by kernel_rfl) (fun x => ?_)) S.i_natOf_ok
  kernel_rfl
def ct_i_nat_cmp : Ct := ⟨[PK.bo (Kd.sl (Kd.int IntKind.u32)), PK.bo (Kd.sl (Kd.int IntKind.u32))], false, [(false, [RC.ro (Kd.int IntKind.i64)])], S.i_nat_cmp⟩
theorem v_i_nat_cmp : Valid Go.Proofs.Tryd.prog gl 36 ct_i_nat_cmp := by
  refine Valid.less (ps := [PK.bo (Kd.sl (Kd.int IntKind.u32)), PK.bo (Kd.sl (Kd.int IntKind.u32))]) (tup := false) (rs := [(false, [RC.ro (Kd.int IntKind.i64)])]) (g := P.i_nat_cmp) (fun k => valid (fx := ⟨⟨Go.Proofs.Tryd.prog, td, [], [], []⟩, k, [(6, [(5, Sp.dat false (Kd.int IntKind.i64)), (0, Sp.dat true (Kd.sl (Kd.int IntKind.u32))),   (1, Sp.dat true (Kd.sl (Kd.int IntKind.u32)))])]⟩) (fn := Go.Proofs.Tryd.f36) (c := Go.Proofs.Tryd.f36.body.getD .skip) mixed tdOk (ctsNil _ _ _ _ _) Go.Proofs.Tryd.func36 (by kernel_rfl) (by kernel_rfl) (fun x => ?_)) S.i_nat_cmp_ok
  kernel_rfl
def ct_i_nat_small : Ct := ⟨[PK.bo (Kd.sl (Kd.int IntKind.u32))], true, [(false, [RC.ro (Kd.int IntKind.u64)]), (false, [RC.ro Kd.bool])], S.i_nat_small⟩
theorem v_i_nat_small : Valid Go.Proofs.Tryd.prog gl 50 ct_i_nat_small := by
  refine Valid.less (ps := [PK.bo (Kd.sl (Kd.int IntKind.u32))]) (tup := true) (rs := [(false, [RC.ro (Kd.int IntKind.u64)]), (false, [RC.ro Kd.bool])]) (g := P.i_nat_small) (fun k => valid (fx := ⟨⟨Go.Proofs.Tryd.prog, td, [], [], []⟩, k, [(3, [(5, Sp.dat false (Kd.int IntKind.i64)), (0, Sp.dat true (Kd.sl (Kd.int IntKind.u32))), (4, Sp.dat false (Kd.int IntKind.u64))])]⟩) (fn := Go.Proofs.Tryd.f50) (c := Go.Proofs.Tryd.f50.body.getD .skip) mixed tdOk (ctsNil _ _ _ _ _) Go.Proofs.Tryd.func50 (by kernel_rfl) (by kernel_rfl) (fun x => ?_)) S.i_nat_small_ok
  kernel_rfl
def ct_math_bits_LeadingZeros32 : Ct := ⟨[PK.ro (Kd.int IntKind.u32)], false, [(false, [RC.ro (Kd.int IntKind.i64)])], S.math_bits_LeadingZeros32⟩
theorem v_math_bits_LeadingZeros32 : Valid Go.Proofs.Tryd.prog gl 68 ct_math_bits_LeadingZeros32 := by
  refine told_flat (enters_of Go.Proofs.Tryd.func68 (by kernel_rfl) (by kernel_rfl)) (fun _ _ _ _ _ _ => trivial) (fun w M0 W0 us x γ hl hW ha r hr => ?_)
  obtain ⟨n, q⟩ := x
  obtain ⟨u1, _, rfl, ⟨c1, h1, h1'⟩, rfl⟩ := ha
  cases h1'; subst h1
  unfold S.math_bits_LeadingZeros32 at hr
  split at hr
  case isFalse => cases hr
  rename_i hc
  cases hr
  refine (Go.Proofs.Tryd.bits_LeadingZeros32 n w hc.1 hc.2).mono ?_
  rintro e w' ⟨rfl, rfl⟩
  exact ⟨[_], rfl, Below.refl _ _, fun M' => ⟨[_], rfl, fun _ => rfl, rfl⟩⟩

def ct_i_nat_divSmall : Ct := ⟨[PK.bo (Kd.sl (Kd.int IntKind.u32)), PK.ro (Kd.int IntKind.u32)], true, [(false, [RC.ro (Kd.sl (Kd.int IntKind.u32))]), (false, [RC.ro (Kd.int IntKind.u32)])], S.i_nat_divSmall⟩
theorem v_i_nat_divSmall : Valid Go.Proofs.Tryd.prog gl 67 ct_i_nat_divSmall := by
  refine Valid.less (ps := [PK.bo (Kd.sl (Kd.int IntKind.u32)), PK.ro (Kd.int IntKind.u32)]) (tup := true) (rs := [(false, [RC.ro (Kd.sl (Kd.int IntKind.u32))]), (false, [RC.ro (Kd.int IntKind.u32)])]) (g := P.i_nat_divSmall) (fun k => valid (fx := ⟨⟨Go.Proofs.Tryd.prog, td, [(49, ct_i_nat_trim)], [], []⟩, k, [(3, [(8, Sp.dat false (Kd.int IntKind.i64)), (7, Sp.dat false (Kd.int IntKind.u64)), (0, Sp.dat true (Kd.sl (Kd.int IntKind.u32))),   (6, Sp.own (88) true (Kd.int IntKind.u32)), (1, Sp.dat false (Kd.int IntKind.u32))])]⟩) (fn := Go.Proofs.Tryd.f67) (c := Go.Proofs.Tryd.f67.body.getD .skip) mixed tdOk (ctsCons v_i_nat_trim (ctsNil _ _ _ _ _)) Go.Proofs.Tryd.func67 (by kernel_rfl) (by kernel_rfl) (fun x => ?_)) S.i_nat_divSmall_ok
  kernel_rfl
def ct_i_nat_shifted : Ct := ⟨[PK.bo (Kd.sl (Kd.int IntKind.u32)), PK.ro (Kd.int IntKind.i64)], false, [(false, [RC.own (Kd.int IntKind.u32)])], S.i_nat_shifted⟩
theorem v_i_nat_shifted : Valid Go.Proofs.Tryd.prog gl 69 ct_i_nat_shifted := by
  refine Valid.less (ps := [PK.bo (Kd.sl (Kd.int IntKind.u32)), PK.ro (Kd.int IntKind.i64)]) (tup := false) (rs := [(false, [RC.own (Kd.int IntKind.u32)])]) (g := P.i_nat_shifted) (fun k => valid (fx := ⟨⟨Go.Proofs.Tryd.prog, td, [], [], []⟩, k, [(3, [(15, Sp.dat false (Kd.int IntKind.i64)), (14, Sp.dat false (Kd.int IntKind.i64)), (13, Sp.dat true (Kd.sl (Kd.int IntKind.u32))),   (1, Sp.dat false (Kd.int IntKind.i64)), (5, Sp.own (96) true (Kd.int IntKind.u32))])]⟩) (fn := Go.Proofs.Tryd.f69) (c := Go.Proofs.Tryd.f69.body.getD .skip) mixed tdOk (ctsNil _ _ _ _ _) Go.Proofs.Tryd.func69 (by kernel_rfl) (by kernel_rfl) (fun x => ?_)) S.i_nat_shifted_ok
  kernel_rfl
def ct_i_takeAway : Ct := ⟨[PK.mu (Kd.int IntKind.u32), PK.bo (Kd.sl (Kd.int IntKind.u32)), PK.ro (Kd.int IntKind.u64)], false, [(false, [RC.ro Kd.bool])], S.i_takeAway⟩
theorem v_i_takeAway : Valid Go.Proofs.Tryd.prog gl 70 ct_i_takeAway := by
  refine Valid.less (ps := [PK.mu (Kd.int IntKind.u32), PK.bo (Kd.sl (Kd.int IntKind.u32)), PK.ro (Kd.int IntKind.u64)]) (tup := false) (rs := [(false, [RC.ro Kd.bool])]) (g := P.i_takeAway) (fun k => valid (fx := ⟨⟨Go.Proofs.Tryd.prog, td, [], [], []⟩, k, [(18, [(59, Sp.dat false (Kd.int IntKind.i64)), (58, Sp.dat false (Kd.int IntKind.i64)), (7, Sp.dat false (Kd.int IntKind.u64)),   (0, Sp.own (0) false (Kd.int IntKind.u32)), (1, Sp.dat true (Kd.sl (Kd.int IntKind.u32)))]), (3, [(14, Sp.dat false (Kd.int IntKind.i64)), (13, Sp.dat false (Kd.int IntKind.i64)), (1, Sp.dat true (Kd.sl (Kd.int IntKind.u32))),   (7, Sp.dat false (Kd.int IntKind.u64)), (2, Sp.dat false (Kd.int IntKind.u64)), (0, Sp.own (0) false (Kd.int IntKind.u32)),   (8, Sp.dat false (Kd.int IntKind.i64))])]⟩) (fn := Go.Proofs.Tryd.f70) (c := Go.Proofs.Tryd.f70.body.getD .skip) mixed tdOk (ctsNil _ _ _ _ _) Go.Proofs.Tryd.func70 (by kernel_rfl) (by kernel_rfl) (fun x => ?_)) S.i_takeAway_ok
  kernel_rfl
def ct_i_nat_div : Ct := ⟨[PK.ro (Kd.sl (Kd.int IntKind.u32)), PK.ro (Kd.sl (Kd.int IntKind.u32))], true, [(false, [RC.ro (Kd.sl (Kd.int IntKind.u32))]), (false, [RC.ro (Kd.sl (Kd.int IntKind.u32))])], S.i_nat_div⟩
theorem trimN_snoc (xs : List Int) (x : Int) : trimN (xs ++ [x]) = if x = 0 then trimN xs else xs.length + 1 := by
  unfold trimN
  rw [List.reverse_append]
  by_cases h : x = 0
  · simp [h]
  · simp [h]
theorem trimN_le (xs : List Int) : trimN xs ≤ xs.length := by
  unfold trimN
  have := (List.dropWhile_sublist (fun x : Int => x == 0) (l := xs.reverse)).length_le
  simpa using this
def lenOfV : Value → Nat
  | .slice _ m _ => m
  | _ => 0
set_option maxHeartbeats 800000 in
set_option maxRecDepth 100000 in
theorem trim_calls (b o real : Nat) (xs : List Int) (w : World) (hle : xs.length ≤ real) (hbig : xs.length ≤ 1000000000000) (hc : ∀ (i : Nat) (x : Int), xs[i]? = some x → w.cell? ⟨b, o + i, none⟩ = some (.int .u32 x)) :
    Calls Go.Proofs.Tryd.prog 49 #[.slice (some ⟨b, o, none⟩) xs.length real] w fun e w' => e = .returned (.slice (some ⟨b, o, none⟩) (trimN xs) real) ∧ w' = w := by
  go_enter Go.Proofs.Tryd.func49, Go.Proofs.Tryd.ntmps49
  go_wp2
  go_loopw [0] (fun v wr => ∃ m : Nat, m ≤ xs.length ∧ v = .slice (some ⟨b, o, none⟩) m real ∧ wr = w ∧ trimN (xs.take m) = trimN xs) (fun v _ => lenOfV v)
  case atStart => exact ⟨xs.length, Nat.le_refl _, rfl, rfl, by rw [List.take_length]⟩
  case round =>
    obtain ⟨m, hm, rfl, rfl, ht⟩ := hrel
    by_cases h0 : 0 < m
    · obtain ⟨k, rfl⟩ : ∃ k, m = k + 1 := ⟨m - 1, by omega⟩
      have hx : xs[k]? = some xs[k] := List.getElem?_eq_getElem (by omega)
      have hcx := hc k _ hx
      have hw : wrap64 (((k + 1 : Nat) : Int) - 1) = (k : Int) := by
        have e : ((k + 1 : Nat) : Int) - 1 = (k : Int) := by omega
        rw [e]
        exact IntWalk.wrap64_in _ (by omega)
      have ht' : trimN (xs.take (k + 1)) = if xs[k] = 0 then trimN (xs.take k) else k + 1 := by
        rw [← List.take_append_getElem (show k < xs.length by omega), trimN_snoc]
        have : (xs.take k).length = k := by simp; omega
        rw [this]
      go_wp2
      · have hz : (xs[k] == 0) = true := by assumption
        have hz' : xs[k] = 0 := by simpa using hz
        rw [if_pos hz'] at ht'
        exact ⟨⟨k, by omega, rfl, trivial, by rw [← ht', ht]⟩, Nat.lt_succ_self k⟩
      · have hz : (xs[k] == 0) = false := by assumption
        have hz' : ¬ xs[k] = 0 := by simpa using hz
        rw [if_neg hz'] at ht'
        rw [← ht, ht']
        go_ret
        exact ⟨rfl, rfl⟩
    · have h1 : m = 0 := by omega
      subst h1
      go_wp2
      have h2 : trimN xs = 0 := by rw [← ht]; rfl
      rw [h2]
      go_ret
      exact ⟨rfl, rfl⟩
set_option maxHeartbeats 800000 in
set_option maxRecDepth 100000 in
theorem trim_calls0 (A : Option Addr) (real : Nat) (w : World) :
    Calls Go.Proofs.Tryd.prog 49 #[.slice A 0 real] w fun e w' => e = .returned (.slice A 0 real) ∧ w' = w := by
  go_enter Go.Proofs.Tryd.func49, Go.Proofs.Tryd.ntmps49
  go_wp2
  refine wp_loop_rounds 1 ?_
  rw [rounds_succ]
  go_wp2
  go_ret
  exact ⟨rfl, rfl⟩
theorem shr_trim : ShrOk Go.Proofs.Tryd.prog 49 IntKind.u32 trimN := by
  refine ⟨enters_of Go.Proofs.Tryd.func49 (by kernel_rfl) (by kernel_rfl), fun w u xs A real hbig hsl hno hc => ?_⟩
  obtain ⟨A', rfl, hle, hA⟩ := hsl
  rcases Nat.eq_zero_or_pos real with h0 | h0
  · have h1 : xs = [] := List.eq_nil_of_length_eq_zero (by omega)
    subst h1
    refine (trim_calls0 A' real w).mono ?_
    rintro e w' ⟨rfl, rfl⟩
    exact ⟨rfl, Nat.le_refl _, _, rfl, rfl, A', rfl, Nat.zero_le _, fun h => by omega⟩
  · obtain ⟨b, o, rfl, rfl⟩ := hA h0
    refine (trim_calls b o real xs w hle hbig (hc b o rfl)).mono ?_
    rintro e w' ⟨rfl, rfl⟩
    have := trimN_le xs
    exact ⟨rfl, this, _, rfl, rfl, _, rfl, by omega, fun _ => ⟨b, o, rfl, rfl⟩⟩

theorem v_i_nat_div : Valid Go.Proofs.Tryd.prog gl 51 ct_i_nat_div := by
  refine Valid.less (ps := [PK.ro (Kd.sl (Kd.int IntKind.u32)), PK.ro (Kd.sl (Kd.int IntKind.u32))]) (tup := true) (rs := [(false, [RC.ro (Kd.sl (Kd.int IntKind.u32))]), (false, [RC.ro (Kd.sl (Kd.int IntKind.u32))])]) (g := P.i_nat_div) (fun k => valid (fx := ⟨⟨Go.Proofs.Tryd.prog, td, [(68, ct_math_bits_LeadingZeros32), (49, ct_i_nat_trim), (36, ct_i_nat_cmp), (67, ct_i_nat_divSmall), (69, ct_i_nat_shifted), (70, ct_i_takeAway)], [], [(49, IntKind.u32, trimN)]⟩, k, [(26, [(148, Sp.dat false (Kd.int IntKind.i64)), (147, Sp.dat false (Kd.int IntKind.i64)),   (9, Sp.own (400) true (Kd.int IntKind.u32)), (8, Sp.dat false (Kd.int IntKind.i64)),   (13, Sp.own (592) true (Kd.int IntKind.u32))]), (17, [(17, Sp.dat false (Kd.int IntKind.u64)), (12, Sp.dat false (Kd.int IntKind.u64)), (18, Sp.dat false (Kd.int IntKind.u64)),   (9, Sp.own (400) true (Kd.int IntKind.u32)), (15, Sp.dat false (Kd.int IntKind.i64)), (11, Sp.dat false (Kd.int IntKind.u64)),   (14, Sp.dat false (Kd.int IntKind.i64)), (10, Sp.dat false (Kd.sl (Kd.int IntKind.u32))),   (13, Sp.own (592) true (Kd.int IntKind.u32)), (8, Sp.dat false (Kd.int IntKind.i64))]), (12, [(14, Sp.dat false (Kd.int IntKind.i64)), (10, Sp.dat false (Kd.sl (Kd.int IntKind.u32))),   (9, Sp.own (400) true (Kd.int IntKind.u32)), (11, Sp.dat false (Kd.int IntKind.u64)), (12, Sp.dat false (Kd.int IntKind.u64)),   (13, Sp.own (592) true (Kd.int IntKind.u32)), (8, Sp.dat false (Kd.int IntKind.i64))])]⟩) (fn := Go.Proofs.Tryd.f51) (c := Go.Proofs.Tryd.f51.body.getD .skip) mixed tdOk (ctsCons v_math_bits_LeadingZeros32 (ctsCons v_i_nat_trim (ctsCons v_i_nat_cmp (ctsCons v_i_nat_divSmall (ctsCons v_i_nat_shifted (ctsCons v_i_takeAway (ctsShr shr_trim))))))) Go.Proofs.Tryd.func51 (by kernel_rfl) (by kernel_rfl) (fun x => ?_)) S.i_nat_div_ok
  kernel_rfl
def ct_i_nat_gcd : Ct := ⟨[PK.ro (Kd.sl (Kd.int IntKind.u32)), PK.ro (Kd.sl (Kd.int IntKind.u32))], false, [(false, [RC.ro (Kd.sl (Kd.int IntKind.u32))])], S.i_nat_gcd⟩
theorem v_i_nat_gcd : Valid Go.Proofs.Tryd.prog gl 37 ct_i_nat_gcd := by
  refine Valid.less (ps := [PK.ro (Kd.sl (Kd.int IntKind.u32)), PK.ro (Kd.sl (Kd.int IntKind.u32))]) (tup := false) (rs := [(false, [RC.ro (Kd.sl (Kd.int IntKind.u32))])]) (g := P.i_nat_gcd) (fun k => valid (fx := ⟨⟨Go.Proofs.Tryd.prog, td, [(35, ct_i_natOf), (50, ct_i_nat_small), (51, ct_i_nat_div)], [], []⟩, k, [(5, [(7, Sp.dat false (Kd.int IntKind.u64)), (5, Sp.dat false (Kd.int IntKind.u64))]), (1, [(1, Sp.dat false (Kd.sl (Kd.int IntKind.u32))), (0, Sp.dat false (Kd.sl (Kd.int IntKind.u32)))])]⟩) (fn := Go.Proofs.Tryd.f37) (c := Go.Proofs.Tryd.f37.body.getD .skip) mixed tdOk (ctsCons v_i_natOf (ctsCons v_i_nat_small (ctsCons v_i_nat_div (ctsNil _ _ _ _ _)))) Go.Proofs.Tryd.func37 (by kernel_rfl) (by kernel_rfl) (fun x => ?_)) S.i_nat_gcd_ok
  kernel_rfl
def ct_strconv_ParseUint : Ct := ⟨[PK.ro Kd.str, PK.ro (Kd.int IntKind.i64), PK.ro (Kd.int IntKind.i64)], true, [(false, [RC.ro (Kd.int IntKind.u64)]), (false, [RC.ro Kd.er])], S.strconv_ParseUint⟩
theorem v_strconv_ParseUint (hR : InR gl) (hS : InS gl) : Valid Go.Proofs.Tryd.prog gl 46 ct_strconv_ParseUint := by
  refine told_flat (enters_of Go.Proofs.Tryd.func46 (by kernel_rfl) (by kernel_rfl)) (fun _ _ _ _ _ _ => trivial) (fun w M0 W0 us x γ hl hW ha r hr => ?_)
  obtain ⟨s, b, z, q⟩ := x
  obtain ⟨u1, _, rfl, ⟨c1, h1, h1'⟩, u2, _, rfl, ⟨c2, h2, h2'⟩, u3, _, rfl, ⟨c3, h3, h3'⟩, rfl⟩ := ha
  cases h1'; cases h2'; cases h3'; subst h1; subst h2; subst h3
  unfold S.strconv_ParseUint at hr
  split at hr
  case isFalse => cases hr
  rename_i hc
  obtain ⟨hb, hz, hs⟩ := hc
  dsimp only at hb hz hs hr
  subst hb; subst hz
  obtain ⟨t1, p1, hS⟩ := hS
  obtain ⟨t2, p2, hR⟩ := hR
  have v1 : w.var? Go.Proofs.Tryd.prog "strconv.ErrSyntax" = some #[.iface t1 p1] := laid_var hl hS (by kernel_rfl)
  have v2 : w.var? Go.Proofs.Tryd.prog "strconv.ErrRange" = some #[.iface t2 p2] := laid_var hl hR (by kernel_rfl)
  split at hr
  · rename_i v hv
    cases hr
    refine (Go.Proofs.Tryd.strconv_ParseUint_10_at64_ok s (by omega) v hv w).mono ?_
    rintro e w' ⟨rfl, hw⟩
    refine ⟨[_, _], rfl, ?_, fun M' => ⟨[_], [_], rfl, fun _ => rfl, rfl, [_], rfl, fun _ => rfl, _, rfl, rfl, rfl⟩⟩
    rcases hw with rfl | ⟨t, rfl⟩
    · exact Below.refl _ _
    · exact ⟨rfl, rfl, rfl, by rw [Lib.bytesWorld_size]; omega, fun k hk => Lib.bytesWorld_at_old _ _ _ k (by omega)⟩
  · rename_i hv
    cases hr
    refine (Go.Proofs.Tryd.strconv_ParseUint_10_at64_syntax_var s hs hv t1 p1 w v1).mono ?_
    rintro e w' ⟨N, rfl, _, _, hbl⟩
    exact ⟨[_, _], rfl, hbl, fun M' => ⟨[_], [_], rfl, fun _ => rfl, rfl, [_], rfl, fun _ => rfl, _, rfl, rfl, _, _, rfl⟩⟩
  · rename_i hv
    cases hr
    refine (Go.Proofs.Tryd.strconv_ParseUint_10_at64_range_var s hs hv t2 p2 w v2).mono ?_
    rintro e w' ⟨N, rfl, _, _, hbl⟩
    exact ⟨[_, _], rfl, hbl, fun M' => ⟨[_], [_], rfl, fun _ => rfl, rfl, [_], rfl, fun _ => rfl, _, rfl, rfl, _, _, rfl⟩⟩

def ct_i_nat_add : Ct := ⟨[PK.bo (Kd.sl (Kd.int IntKind.u32)), PK.bo (Kd.sl (Kd.int IntKind.u32))], false, [(false, [RC.ro (Kd.sl (Kd.int IntKind.u32))])], S.i_nat_add⟩
theorem v_i_nat_add : Valid Go.Proofs.Tryd.prog gl 48 ct_i_nat_add := by
  refine Valid.less (ps := [PK.bo (Kd.sl (Kd.int IntKind.u32)), PK.bo (Kd.sl (Kd.int IntKind.u32))]) (tup := false) (rs := [(false, [RC.ro (Kd.sl (Kd.int IntKind.u32))])]) (g := P.i_nat_add) (fun k => valid (fx := ⟨⟨Go.Proofs.Tryd.prog, td, [(49, ct_i_nat_trim)], [], []⟩, k, [(5, [(21, Sp.dat false (Kd.int IntKind.i64)), (20, Sp.dat false (Kd.int IntKind.i64)), (6, Sp.dat false (Kd.int IntKind.u64)),   (0, Sp.dat true (Kd.sl (Kd.int IntKind.u32))), (1, Sp.dat true (Kd.sl (Kd.int IntKind.u32))),   (5, Sp.own (144) true (Kd.int IntKind.u32))])]⟩) (fn := Go.Proofs.Tryd.f48) (c := Go.Proofs.Tryd.f48.body.getD .skip) mixed tdOk (ctsCons v_i_nat_trim (ctsNil _ _ _ _ _)) Go.Proofs.Tryd.func48 (by kernel_rfl) (by kernel_rfl) (fun x => ?_)) S.i_nat_add_ok
  kernel_rfl
def ct_i_nat_mul : Ct := ⟨[PK.bo (Kd.sl (Kd.int IntKind.u32)), PK.bo (Kd.sl (Kd.int IntKind.u32))], false, [(false, [RC.ro (Kd.sl (Kd.int IntKind.u32))])], S.i_nat_mul⟩
theorem v_i_nat_mul : Valid Go.Proofs.Tryd.prog gl 47 ct_i_nat_mul := by
  refine Valid.less (ps := [PK.bo (Kd.sl (Kd.int IntKind.u32)), PK.bo (Kd.sl (Kd.int IntKind.u32))]) (tup := false) (rs := [(false, [RC.ro (Kd.sl (Kd.int IntKind.u32))])]) (g := P.i_nat_mul) (fun k => valid (fx := ⟨⟨Go.Proofs.Tryd.prog, td, [(49, ct_i_nat_trim)], [], []⟩, k, [(7, [(26, Sp.dat false (Kd.int IntKind.i64)), (25, Sp.dat false (Kd.int IntKind.i64)), (24, Sp.dat true (Kd.sl (Kd.int IntKind.u32))),   (8, Sp.dat false (Kd.int IntKind.u64)), (7, Sp.dat false (Kd.int IntKind.u32)), (5, Sp.own (128) true (Kd.int IntKind.u32)),   (6, Sp.dat false (Kd.int IntKind.i64)), (1, Sp.dat true (Kd.sl (Kd.int IntKind.u32))), (19, Sp.dat false (Kd.int IntKind.i64)),   (18, Sp.dat false (Kd.int IntKind.i64)), (17, Sp.dat true (Kd.sl (Kd.int IntKind.u32)))]), (3, [(19, Sp.dat false (Kd.int IntKind.i64)), (18, Sp.dat false (Kd.int IntKind.i64)), (17, Sp.dat true (Kd.sl (Kd.int IntKind.u32))),   (1, Sp.dat true (Kd.sl (Kd.int IntKind.u32))), (5, Sp.own (128) true (Kd.int IntKind.u32))])]⟩) (fn := Go.Proofs.Tryd.f47) (c := Go.Proofs.Tryd.f47.body.getD .skip) mixed tdOk (ctsCons v_i_nat_trim (ctsNil _ _ _ _ _)) Go.Proofs.Tryd.func47 (by kernel_rfl) (by kernel_rfl) (fun x => ?_)) S.i_nat_mul_ok
  kernel_rfl
def ct_i_readNat : Ct := ⟨[PK.ro Kd.str], true, [(false, [RC.ro (Kd.sl (Kd.int IntKind.u32))]), (false, [RC.ro Kd.bool])], S.i_readNat⟩
theorem v_i_readNat (hR : InR gl) (hS : InS gl) : Valid Go.Proofs.Tryd.prog gl 34 ct_i_readNat := by
  refine Valid.less (ps := [PK.ro Kd.str]) (tup := true) (rs := [(false, [RC.ro (Kd.sl (Kd.int IntKind.u32))]), (false, [RC.ro Kd.bool])]) (g := P.i_readNat) (fun k => valid (fx := ⟨⟨Go.Proofs.Tryd.prog, td, [(46, ct_strconv_ParseUint), (35, ct_i_natOf), (48, ct_i_nat_add), (47, ct_i_nat_mul)], [], []⟩, k, [(17, [(59, Sp.dat false (Kd.int IntKind.i64)), (58, Sp.dat false (Kd.int IntKind.i64)), (9, Sp.dat false (Kd.int IntKind.u64)),   (4, Sp.dat false (Kd.sl (Kd.int IntKind.u32))), (7, Sp.dat false (Kd.int IntKind.u64)), (0, Sp.dat false Kd.str),   (6, Sp.dat false (Kd.int IntKind.i64))]), (10, [(0, Sp.dat false Kd.str), (4, Sp.dat false (Kd.sl (Kd.int IntKind.u32)))]), (5, [(30, Sp.dat false (Kd.int IntKind.i64)), (29, Sp.dat false (Kd.int IntKind.i64)), (0, Sp.dat false Kd.str),   (4, Sp.dat false (Kd.sl (Kd.int IntKind.u32)))])]⟩) (fn := Go.Proofs.Tryd.f34) (c := Go.Proofs.Tryd.f34.body.getD .skip) mixed tdOk (ctsCons (v_strconv_ParseUint hR hS) (ctsCons v_i_natOf (ctsCons v_i_nat_add (ctsCons v_i_nat_mul (ctsNil _ _ _ _ _))))) Go.Proofs.Tryd.func34 (by kernel_rfl) (by kernel_rfl) (fun x => ?_)) S.i_readNat_ok
  kernel_rfl
def ct_i_readRat : Ct := ⟨[PK.ro Kd.str], true, [(true, [RC.ro (Kd.st (Kd.pair Kd.bool (Kd.pair (Kd.sl (Kd.int IntKind.u32)) (Kd.sl (Kd.int IntKind.u32)))))]), (false, [RC.ro Kd.bool])], S.i_readRat⟩
theorem v_i_readRat (hM : InM gl) (hR : InR gl) (hS : InS gl) : Valid Go.Proofs.Tryd.prog gl 24 ct_i_readRat := by
  refine Valid.less (ps := [PK.ro Kd.str]) (tup := true) (rs := [(true, [RC.ro (Kd.st (Kd.pair Kd.bool (Kd.pair (Kd.sl (Kd.int IntKind.u32)) (Kd.sl (Kd.int IntKind.u32)))))]), (false, [RC.ro Kd.bool])]) (g := P.i_readRat) (fun k => valid (fx := ⟨⟨Go.Proofs.Tryd.prog, td, [(32, ct_strings_Cut), (33, ct_strings_CutPrefix), (35, ct_i_natOf), (36, ct_i_nat_cmp), (37, ct_i_nat_gcd), (34, ct_i_readNat)], [], []⟩, k, []⟩) (fn := Go.Proofs.Tryd.f24) (c := Go.Proofs.Tryd.f24.body.getD .skip) mixed tdOk (ctsCons (v_strings_Cut hM) (ctsCons v_strings_CutPrefix (ctsCons v_i_natOf (ctsCons v_i_nat_cmp (ctsCons v_i_nat_gcd (ctsCons (v_i_readNat hR hS) (ctsNil _ _ _ _ _))))))) Go.Proofs.Tryd.func24 (by kernel_rfl) (by kernel_rfl) (fun x => ?_)) S.i_readRat_ok
  kernel_rfl
def ct_i_rats : Ct := ⟨[PK.bo (Kd.sl Kd.str)], true, [(false, [RC.ro (Kd.sl (Kd.st (Kd.pair Kd.bool (Kd.pair (Kd.sl (Kd.int IntKind.u32)) (Kd.sl (Kd.int IntKind.u32))))))]),   (false, [RC.ro Kd.bool])], S.i_rats⟩
theorem v_i_rats (hM : InM gl) (hR : InR gl) (hS : InS gl) : Valid Go.Proofs.Tryd.prog gl 18 ct_i_rats := by
  refine Valid.less (ps := [PK.bo (Kd.sl Kd.str)]) (tup := true) (rs := [(false, [RC.ro (Kd.sl (Kd.st (Kd.pair Kd.bool (Kd.pair (Kd.sl (Kd.int IntKind.u32)) (Kd.sl (Kd.int IntKind.u32))))))]),   (false, [RC.ro Kd.bool])]) (g := P.i_rats) (fun k => valid (fx := ⟨⟨Go.Proofs.Tryd.prog, td, [(24, ct_i_readRat)], [], []⟩, k, [(5, [(15, Sp.dat false (Kd.int IntKind.i64)), (14, Sp.dat false (Kd.int IntKind.i64)), (13, Sp.dat true (Kd.sl Kd.str)),   (4, Sp.own (96) true (Kd.st (Kd.pair Kd.bool (Kd.pair (Kd.sl (Kd.int IntKind.u32)) (Kd.sl (Kd.int IntKind.u32))))))])]⟩) (fn := Go.Proofs.Tryd.f18) (c := Go.Proofs.Tryd.f18.body.getD .skip) mixed tdOk (ctsCons (v_i_readRat hM hR hS) (ctsNil _ _ _ _ _)) Go.Proofs.Tryd.func18 (by kernel_rfl) (by kernel_rfl) (fun x => ?_)) S.i_rats_ok
  kernel_rfl
def ct_i_ReadFractions : Ct := ⟨[PK.ro Kd.str], true, [(false, [RC.own Kd.str]), (false, [RC.ro Kd.bool])], S.i_ReadFractions⟩
theorem v_i_ReadFractions (hM : InM gl) (hR : InR gl) (hS : InS gl) : Valid Go.Proofs.Tryd.prog gl 11 ct_i_ReadFractions := by
  refine Valid.less (ps := [PK.ro Kd.str]) (tup := true) (rs := [(false, [RC.own Kd.str]), (false, [RC.ro Kd.bool])]) (g := P.i_ReadFractions) (fun k => valid (fx := ⟨⟨Go.Proofs.Tryd.prog, td, [(21, ct_i_parted), (18, ct_i_rats)], [], []⟩, k, []⟩) (fn := Go.Proofs.Tryd.f11) (c := Go.Proofs.Tryd.f11.body.getD .skip) mixed tdOk (ctsCons (v_i_parted hM) (ctsCons (v_i_rats hM hR hS) (ctsNil _ _ _ _ _))) Go.Proofs.Tryd.func11 (by kernel_rfl) (by kernel_rfl) (fun x => ?_)) S.i_ReadFractions_ok
  kernel_rfl
def ct_s_l01Cut : Ct := ⟨[PK.ro Kd.str, PK.ro (Kd.int IntKind.u8)], false, [(false, [RC.own Kd.str])], S.s_l01Cut⟩
theorem v_s_l01Cut : Valid Go.Proofs.Tryd.prog gl 26 ct_s_l01Cut := by
  refine Valid.less (ps := [PK.ro Kd.str, PK.ro (Kd.int IntKind.u8)]) (tup := false) (rs := [(false, [RC.own Kd.str])]) (g := P.s_l01Cut) (fun k => valid (fx := ⟨⟨Go.Proofs.Tryd.prog, td, [], [], []⟩, k, [(4, [(7, Sp.dat false (Kd.int IntKind.i64)), (0, Sp.dat false Kd.str), (1, Sp.dat false (Kd.int IntKind.u8)),   (5, Sp.own (64) true Kd.str), (6, Sp.dat false (Kd.int IntKind.i64))])]⟩) (fn := Go.Proofs.Tryd.f26) (c := Go.Proofs.Tryd.f26.body.getD .skip) mixed tdOk (ctsNil _ _ _ _ _) Go.Proofs.Tryd.func26 (by kernel_rfl) (by kernel_rfl) (fun x => ?_)) S.s_l01Cut_ok
  kernel_rfl
def ct_s_l01Cmp : Ct := ⟨[PK.bo (Kd.sl (Kd.int IntKind.i64)), PK.bo (Kd.sl (Kd.int IntKind.i64))], false, [(false, [RC.ro (Kd.int IntKind.i64)])], S.s_l01Cmp⟩
theorem v_s_l01Cmp : Valid Go.Proofs.Tryd.prog gl 30 ct_s_l01Cmp := by
  refine Valid.less (ps := [PK.bo (Kd.sl (Kd.int IntKind.i64)), PK.bo (Kd.sl (Kd.int IntKind.i64))]) (tup := false) (rs := [(false, [RC.ro (Kd.int IntKind.i64)])]) (g := P.s_l01Cmp) (fun k => valid (fx := ⟨⟨Go.Proofs.Tryd.prog, td, [], [], []⟩, k, [(6, [(5, Sp.dat false (Kd.int IntKind.i64)), (0, Sp.dat true (Kd.sl (Kd.int IntKind.i64))),   (1, Sp.dat true (Kd.sl (Kd.int IntKind.i64)))])]⟩) (fn := Go.Proofs.Tryd.f30) (c := Go.Proofs.Tryd.f30.body.getD .skip) mixed tdOk (ctsNil _ _ _ _ _) Go.Proofs.Tryd.func30 (by kernel_rfl) (by kernel_rfl) (fun x => ?_)) S.s_l01Cmp_ok
  kernel_rfl
def ct_s_l01Trim : Ct := ⟨[PK.ro (Kd.sl (Kd.int IntKind.i64))], false, [(false, [RC.ro (Kd.sl (Kd.int IntKind.i64))])], S.s_l01Trim⟩
theorem v_s_l01Trim : Valid Go.Proofs.Tryd.prog gl 42 ct_s_l01Trim := by
  refine Valid.less (ps := [PK.ro (Kd.sl (Kd.int IntKind.i64))]) (tup := false) (rs := [(false, [RC.ro (Kd.sl (Kd.int IntKind.i64))])]) (g := P.s_l01Trim) (fun k => valid (fx := ⟨⟨Go.Proofs.Tryd.prog, td, [], [], []⟩, k, [(1, [(0, Sp.dat false (Kd.sl (Kd.int IntKind.i64)))])]⟩) (fn := Go.Proofs.Tryd.f42) (c := Go.Proofs.Tryd.f42.body.getD .skip) mixed tdOk (ctsNil _ _ _ _ _) Go.Proofs.Tryd.func42 (by kernel_rfl) (by kernel_rfl) (fun x => ?_)) S.s_l01Trim_ok
  kernel_rfl
def ct_s_l01Nat : Ct := ⟨[PK.ro (Kd.int IntKind.i64)], false, [(false, [RC.ro (Kd.sl (Kd.int IntKind.i64))])], S.s_l01Nat⟩
theorem v_s_l01Nat : Valid Go.Proofs.Tryd.prog gl 58 ct_s_l01Nat := by
  refine Valid.less (ps := [PK.ro (Kd.int IntKind.i64)]) (tup := false) (rs := [(false, [RC.ro (Kd.sl (Kd.int IntKind.i64))])]) (g := P.s_l01Nat) (fun k => valid (fx := ⟨⟨Go.Proofs.Tryd.prog, td, [], [], []⟩, k, [(2, [(0, Sp.dat false (Kd.int IntKind.i64)), (3, Sp.own (32) true (Kd.int IntKind.i64))])]⟩) (fn := Go.Proofs.Tryd.f58) (c := Go.Proofs.Tryd.f58.body.getD .skip) mixed tdOk (ctsNil _ _ _ _ _) Go.Proofs.Tryd.func58 (by kernel_rfl) (by kernel_rfl) (fun x => ?_)) S.s_l01Nat_ok
  kernel_rfl
def ct_s_l01Digit : Ct := ⟨[PK.bo (Kd.sl (Kd.int IntKind.i64)), PK.ro (Kd.int IntKind.i64)], false, [(false, [RC.ro (Kd.int IntKind.i64)])], S.s_l01Digit⟩
theorem v_s_l01Digit : Valid Go.Proofs.Tryd.prog gl 76 ct_s_l01Digit := by
  refine Valid.less (ps := [PK.bo (Kd.sl (Kd.int IntKind.i64)), PK.ro (Kd.int IntKind.i64)]) (tup := false) (rs := [(false, [RC.ro (Kd.int IntKind.i64)])]) (g := P.s_l01Digit) (fun k => valid (fx := ⟨⟨Go.Proofs.Tryd.prog, td, [], [], []⟩, k, []⟩) (fn := Go.Proofs.Tryd.f76) (c := Go.Proofs.Tryd.f76.body.getD .skip) mixed tdOk (ctsNil _ _ _ _ _) Go.Proofs.Tryd.func76 (by kernel_rfl) (by kernel_rfl) (fun x => ?_)) S.s_l01Digit_ok
  kernel_rfl
def ct_s_l01Small : Ct := ⟨[PK.bo (Kd.sl (Kd.int IntKind.i64))], true, [(false, [RC.ro (Kd.int IntKind.i64)]), (false, [RC.ro Kd.bool])], S.s_l01Small⟩
theorem v_s_l01Small : Valid Go.Proofs.Tryd.prog gl 57 ct_s_l01Small := by
  refine Valid.less (ps := [PK.bo (Kd.sl (Kd.int IntKind.i64))]) (tup := true) (rs := [(false, [RC.ro (Kd.int IntKind.i64)]), (false, [RC.ro Kd.bool])]) (g := P.s_l01Small) (fun k => valid (fx := ⟨⟨Go.Proofs.Tryd.prog, td, [(76, ct_s_l01Digit)], [], []⟩, k, []⟩) (fn := Go.Proofs.Tryd.f57) (c := Go.Proofs.Tryd.f57.body.getD .skip) mixed tdOk (ctsCons v_s_l01Digit (ctsNil _ _ _ _ _)) Go.Proofs.Tryd.func57 (by kernel_rfl) (by kernel_rfl) (fun x => ?_)) S.s_l01Small_ok
  kernel_rfl
def ct_s_l01ShortMul : Ct := ⟨[PK.bo (Kd.sl (Kd.int IntKind.i64)), PK.ro (Kd.int IntKind.i64)], false, [(false, [RC.own (Kd.int IntKind.i64)])], S.s_l01ShortMul⟩
theorem v_s_l01ShortMul : Valid Go.Proofs.Tryd.prog gl 60 ct_s_l01ShortMul := by
  refine Valid.less (ps := [PK.bo (Kd.sl (Kd.int IntKind.i64)), PK.ro (Kd.int IntKind.i64)]) (tup := false) (rs := [(false, [RC.own (Kd.int IntKind.i64)])]) (g := P.s_l01ShortMul) (fun k => valid (fx := ⟨⟨Go.Proofs.Tryd.prog, td, [], [], []⟩, k, [(4, [(16, Sp.dat false (Kd.int IntKind.i64)), (15, Sp.dat false (Kd.int IntKind.i64)), (14, Sp.dat true (Kd.sl (Kd.int IntKind.i64))),   (1, Sp.dat false (Kd.int IntKind.i64)), (6, Sp.dat false (Kd.int IntKind.i64)), (5, Sp.own (104) true (Kd.int IntKind.i64))])]⟩) (fn := Go.Proofs.Tryd.f60) (c := Go.Proofs.Tryd.f60.body.getD .skip) mixed tdOk (ctsNil _ _ _ _ _) Go.Proofs.Tryd.func60 (by kernel_rfl) (by kernel_rfl) (fun x => ?_)) S.s_l01ShortMul_ok
  kernel_rfl
def ct_s_l01ShortDiv : Ct := ⟨[PK.bo (Kd.sl (Kd.int IntKind.i64)), PK.ro (Kd.int IntKind.i64)], true, [(false, [RC.ro (Kd.sl (Kd.int IntKind.i64))]), (false, [RC.ro (Kd.int IntKind.i64)])], S.s_l01ShortDiv⟩
theorem v_s_l01ShortDiv : Valid Go.Proofs.Tryd.prog gl 59 ct_s_l01ShortDiv := by
  refine Valid.less (ps := [PK.bo (Kd.sl (Kd.int IntKind.i64)), PK.ro (Kd.int IntKind.i64)]) (tup := true) (rs := [(false, [RC.ro (Kd.sl (Kd.int IntKind.i64))]), (false, [RC.ro (Kd.int IntKind.i64)])]) (g := P.s_l01ShortDiv) (fun k => valid (fx := ⟨⟨Go.Proofs.Tryd.prog, td, [(42, ct_s_l01Trim)], [], []⟩, k, [(4, [(8, Sp.dat false (Kd.int IntKind.i64)), (7, Sp.dat false (Kd.int IntKind.i64)), (0, Sp.dat true (Kd.sl (Kd.int IntKind.i64))),   (6, Sp.own (96) true (Kd.int IntKind.i64)), (1, Sp.dat false (Kd.int IntKind.i64))])]⟩) (fn := Go.Proofs.Tryd.f59) (c := Go.Proofs.Tryd.f59.body.getD .skip) mixed tdOk (ctsCons v_s_l01Trim (ctsNil _ _ _ _ _)) Go.Proofs.Tryd.func59 (by kernel_rfl) (by kernel_rfl) (fun x => ?_)) S.s_l01ShortDiv_ok
  kernel_rfl
def ct_s_l01TakeOff : Ct := ⟨[PK.mu (Kd.int IntKind.i64), PK.bo (Kd.sl (Kd.int IntKind.i64)), PK.ro (Kd.int IntKind.i64), PK.ro (Kd.int IntKind.i64)], false, [(false, [RC.ro Kd.bool])], S.s_l01TakeOff⟩
theorem v_s_l01TakeOff : Valid Go.Proofs.Tryd.prog gl 61 ct_s_l01TakeOff := by
  refine Valid.less (ps := [PK.mu (Kd.int IntKind.i64), PK.bo (Kd.sl (Kd.int IntKind.i64)), PK.ro (Kd.int IntKind.i64), PK.ro (Kd.int IntKind.i64)]) (tup := false) (rs := [(false, [RC.ro Kd.bool])]) (g := P.s_l01TakeOff) (fun k => valid (fx := ⟨⟨Go.Proofs.Tryd.prog, td, [], [], []⟩, k, [(3, [(15, Sp.dat false (Kd.int IntKind.i64)), (14, Sp.dat false (Kd.int IntKind.i64)), (13, Sp.dat true (Kd.sl (Kd.int IntKind.i64))),   (0, Sp.own (0) false (Kd.int IntKind.i64)), (2, Sp.dat false (Kd.int IntKind.i64)), (3, Sp.dat false (Kd.int IntKind.i64)),   (9, Sp.dat false (Kd.int IntKind.i64)), (1, Sp.dat true (Kd.sl (Kd.int IntKind.i64)))])]⟩) (fn := Go.Proofs.Tryd.f61) (c := Go.Proofs.Tryd.f61.body.getD .skip) mixed tdOk (ctsNil _ _ _ _ _) Go.Proofs.Tryd.func61 (by kernel_rfl) (by kernel_rfl) (fun x => ?_)) S.s_l01TakeOff_ok
  kernel_rfl
def ct_s_l01PutBack : Ct := ⟨[PK.mu (Kd.int IntKind.i64), PK.bo (Kd.sl (Kd.int IntKind.i64)), PK.ro (Kd.int IntKind.i64)], true, [], S.s_l01PutBack⟩
theorem v_s_l01PutBack : Valid Go.Proofs.Tryd.prog gl 62 ct_s_l01PutBack := by
  refine Valid.less (ps := [PK.mu (Kd.int IntKind.i64), PK.bo (Kd.sl (Kd.int IntKind.i64)), PK.ro (Kd.int IntKind.i64)]) (tup := true) (rs := []) (g := P.s_l01PutBack) (fun k => valid (fx := ⟨⟨Go.Proofs.Tryd.prog, td, [], [], []⟩, k, [(2, [(12, Sp.dat false (Kd.int IntKind.i64)), (11, Sp.dat false (Kd.int IntKind.i64)), (10, Sp.dat true (Kd.sl (Kd.int IntKind.i64))),   (0, Sp.own (0) false (Kd.int IntKind.i64)), (2, Sp.dat false (Kd.int IntKind.i64)), (6, Sp.dat false (Kd.int IntKind.i64)),   (1, Sp.dat true (Kd.sl (Kd.int IntKind.i64)))])]⟩) (fn := Go.Proofs.Tryd.f62) (c := Go.Proofs.Tryd.f62.body.getD .skip) mixed tdOk (ctsNil _ _ _ _ _) Go.Proofs.Tryd.func62 (by kernel_rfl) (by kernel_rfl) (fun x => ?_)) S.s_l01PutBack_ok
  kernel_rfl
def ct_s_l01NatDiv : Ct := ⟨[PK.bo (Kd.sl (Kd.int IntKind.i64)), PK.bo (Kd.sl (Kd.int IntKind.i64))], true, [(false, [RC.ro (Kd.sl (Kd.int IntKind.i64))]), (false, [RC.ro (Kd.sl (Kd.int IntKind.i64))])], S.s_l01NatDiv⟩
theorem v_s_l01NatDiv : Valid Go.Proofs.Tryd.prog gl 43 ct_s_l01NatDiv := by
  refine Valid.less (ps := [PK.bo (Kd.sl (Kd.int IntKind.i64)), PK.bo (Kd.sl (Kd.int IntKind.i64))]) (tup := true) (rs := [(false, [RC.ro (Kd.sl (Kd.int IntKind.i64))]), (false, [RC.ro (Kd.sl (Kd.int IntKind.i64))])]) (g := P.s_l01NatDiv) (fun k => valid (fx := ⟨⟨Go.Proofs.Tryd.prog, td, [(42, ct_s_l01Trim), (58, ct_s_l01Nat), (30, ct_s_l01Cmp), (57, ct_s_l01Small), (60, ct_s_l01ShortMul), (59, ct_s_l01ShortDiv), (61, ct_s_l01TakeOff), (62, ct_s_l01PutBack)], [], []⟩, k, [(21, [(19, Sp.dat false (Kd.int IntKind.i64)), (14, Sp.dat false (Kd.sl (Kd.int IntKind.i64))),   (15, Sp.dat false (Kd.int IntKind.i64)), (20, Sp.dat false (Kd.int IntKind.i64)),   (13, Sp.own (624) true (Kd.int IntKind.i64)), (17, Sp.dat false (Kd.int IntKind.i64)),   (16, Sp.own (744) true (Kd.int IntKind.i64)), (12, Sp.dat false (Kd.int IntKind.i64))]), (17, [(17, Sp.dat false (Kd.int IntKind.i64)), (13, Sp.own (624) true (Kd.int IntKind.i64)), (15, Sp.dat false (Kd.int IntKind.i64)),   (14, Sp.dat false (Kd.sl (Kd.int IntKind.i64))), (16, Sp.own (744) true (Kd.int IntKind.i64)),   (12, Sp.dat false (Kd.int IntKind.i64))])]⟩) (fn := Go.Proofs.Tryd.f43) (c := Go.Proofs.Tryd.f43.body.getD .skip) mixed tdOk (ctsCons v_s_l01Trim (ctsCons v_s_l01Nat (ctsCons v_s_l01Cmp (ctsCons v_s_l01Small (ctsCons v_s_l01ShortMul (ctsCons v_s_l01ShortDiv (ctsCons v_s_l01TakeOff (ctsCons v_s_l01PutBack (ctsNil _ _ _ _ _))))))))) Go.Proofs.Tryd.func43 (by kernel_rfl) (by kernel_rfl) (fun x => ?_)) S.s_l01NatDiv_ok
  kernel_rfl
def ct_s_l01Gcd : Ct := ⟨[PK.ro (Kd.sl (Kd.int IntKind.i64)), PK.ro (Kd.sl (Kd.int IntKind.i64))], false, [(false, [RC.ro (Kd.sl (Kd.int IntKind.i64))])], S.s_l01Gcd⟩
theorem v_s_l01Gcd : Valid Go.Proofs.Tryd.prog gl 31 ct_s_l01Gcd := by
  refine Valid.less (ps := [PK.ro (Kd.sl (Kd.int IntKind.i64)), PK.ro (Kd.sl (Kd.int IntKind.i64))]) (tup := false) (rs := [(false, [RC.ro (Kd.sl (Kd.int IntKind.i64))])]) (g := P.s_l01Gcd) (fun k => valid (fx := ⟨⟨Go.Proofs.Tryd.prog, td, [(43, ct_s_l01NatDiv)], [], []⟩, k, [(1, [(1, Sp.dat false (Kd.sl (Kd.int IntKind.i64))), (0, Sp.dat false (Kd.sl (Kd.int IntKind.i64)))])]⟩) (fn := Go.Proofs.Tryd.f31) (c := Go.Proofs.Tryd.f31.body.getD .skip) mixed tdOk (ctsCons v_s_l01NatDiv (ctsNil _ _ _ _ _)) Go.Proofs.Tryd.func31 (by kernel_rfl) (by kernel_rfl) (fun x => ?_)) S.s_l01Gcd_ok
  kernel_rfl
def ct_s_l01NatRead : Ct := ⟨[PK.ro Kd.str], false, [(false, [RC.ro (Kd.sl (Kd.int IntKind.i64))])], S.s_l01NatRead⟩
theorem v_s_l01NatRead : Valid Go.Proofs.Tryd.prog gl 29 ct_s_l01NatRead := by
  refine Valid.less (ps := [PK.ro Kd.str]) (tup := false) (rs := [(false, [RC.ro (Kd.sl (Kd.int IntKind.i64))])]) (g := P.s_l01NatRead) (fun k => valid (fx := ⟨⟨Go.Proofs.Tryd.prog, td, [(42, ct_s_l01Trim)], [], []⟩, k, [(10, [(7, Sp.dat false (Kd.int IntKind.i64)), (4, Sp.dat false (Kd.int IntKind.i64)), (6, Sp.dat false (Kd.int IntKind.i64)),   (0, Sp.dat false Kd.str), (3, Sp.own (64) true (Kd.int IntKind.i64))]), (3, [(4, Sp.dat false (Kd.int IntKind.i64)), (0, Sp.dat false Kd.str), (3, Sp.own (64) true (Kd.int IntKind.i64))])]⟩) (fn := Go.Proofs.Tryd.f29) (c := Go.Proofs.Tryd.f29.body.getD .skip) mixed tdOk (ctsCons v_s_l01Trim (ctsNil _ _ _ _ _)) Go.Proofs.Tryd.func29 (by kernel_rfl) (by kernel_rfl) (fun x => ?_)) S.s_l01NatRead_ok
  kernel_rfl
def ct_s_l01Digits : Ct := ⟨[PK.ro Kd.str], false, [(false, [RC.ro Kd.bool])], S.s_l01Digits⟩
theorem v_s_l01Digits : Valid Go.Proofs.Tryd.prog gl 28 ct_s_l01Digits := by
  refine Valid.less (ps := [PK.ro Kd.str]) (tup := false) (rs := [(false, [RC.ro Kd.bool])]) (g := P.s_l01Digits) (fun k => valid (fx := ⟨⟨Go.Proofs.Tryd.prog, td, [], [], []⟩, k, [(2, [(3, Sp.dat false (Kd.int IntKind.i64)), (0, Sp.dat false Kd.str)])]⟩) (fn := Go.Proofs.Tryd.f28) (c := Go.Proofs.Tryd.f28.body.getD .skip) mixed tdOk (ctsNil _ _ _ _ _) Go.Proofs.Tryd.func28 (by kernel_rfl) (by kernel_rfl) (fun x => ?_)) S.s_l01Digits_ok
  kernel_rfl
def ct_s_l01Parse : Ct := ⟨[PK.ro Kd.str], true, [(true, [RC.ro (Kd.st (Kd.pair Kd.bool (Kd.pair (Kd.sl (Kd.int IntKind.i64)) (Kd.sl (Kd.int IntKind.i64)))))]), (false, [RC.ro Kd.bool])], S.s_l01Parse⟩
theorem v_s_l01Parse : Valid Go.Proofs.Tryd.prog gl 23 ct_s_l01Parse := by
  refine Valid.less (ps := [PK.ro Kd.str]) (tup := true) (rs := [(true, [RC.ro (Kd.st (Kd.pair Kd.bool (Kd.pair (Kd.sl (Kd.int IntKind.i64)) (Kd.sl (Kd.int IntKind.i64)))))]), (false, [RC.ro Kd.bool])]) (g := P.s_l01Parse) (fun k => valid (fx := ⟨⟨Go.Proofs.Tryd.prog, td, [(26, ct_s_l01Cut), (30, ct_s_l01Cmp), (31, ct_s_l01Gcd), (29, ct_s_l01NatRead), (28, ct_s_l01Digits)], [], []⟩, k, []⟩) (fn := Go.Proofs.Tryd.f23) (c := Go.Proofs.Tryd.f23.body.getD .skip) mixed tdOk (ctsCons v_s_l01Cut (ctsCons v_s_l01Cmp (ctsCons v_s_l01Gcd (ctsCons v_s_l01NatRead (ctsCons v_s_l01Digits (ctsNil _ _ _ _ _)))))) Go.Proofs.Tryd.func23 (by kernel_rfl) (by kernel_rfl) (fun x => ?_)) S.s_l01Parse_ok
  kernel_rfl
def ct_s_l01List : Ct := ⟨[PK.bo (Kd.sl Kd.str)], true, [(false, [RC.ro (Kd.sl (Kd.st (Kd.pair Kd.bool (Kd.pair (Kd.sl (Kd.int IntKind.i64)) (Kd.sl (Kd.int IntKind.i64))))))]),   (false, [RC.ro Kd.bool])], S.s_l01List⟩
theorem v_s_l01List : Valid Go.Proofs.Tryd.prog gl 15 ct_s_l01List := by
  refine Valid.less (ps := [PK.bo (Kd.sl Kd.str)]) (tup := true) (rs := [(false, [RC.ro (Kd.sl (Kd.st (Kd.pair Kd.bool (Kd.pair (Kd.sl (Kd.int IntKind.i64)) (Kd.sl (Kd.int IntKind.i64))))))]),   (false, [RC.ro Kd.bool])]) (g := P.s_l01List) (fun k => valid (fx := ⟨⟨Go.Proofs.Tryd.prog, td, [(23, ct_s_l01Parse)], [], []⟩, k, [(5, [(14, Sp.dat false (Kd.int IntKind.i64)), (13, Sp.dat false (Kd.int IntKind.i64)), (0, Sp.dat true (Kd.sl Kd.str)),   (4, Sp.own (88) true (Kd.st (Kd.pair Kd.bool (Kd.pair (Kd.sl (Kd.int IntKind.i64)) (Kd.sl (Kd.int IntKind.i64))))))])]⟩) (fn := Go.Proofs.Tryd.f15) (c := Go.Proofs.Tryd.f15.body.getD .skip) mixed tdOk (ctsCons v_s_l01Parse (ctsNil _ _ _ _ _)) Go.Proofs.Tryd.func15 (by kernel_rfl) (by kernel_rfl) (fun x => ?_)) S.s_l01List_ok
  kernel_rfl
def ct_s_l01Read : Ct := ⟨[PK.ro Kd.str], true, [(false, [RC.own Kd.str]), (false, [RC.ro Kd.bool])], S.s_l01Read⟩
theorem v_s_l01Read : Valid Go.Proofs.Tryd.prog gl 20 ct_s_l01Read := by
  refine Valid.less (ps := [PK.ro Kd.str]) (tup := true) (rs := [(false, [RC.own Kd.str]), (false, [RC.ro Kd.bool])]) (g := P.s_l01Read) (fun k => valid (fx := ⟨⟨Go.Proofs.Tryd.prog, td, [(26, ct_s_l01Cut), (15, ct_s_l01List)], [], []⟩, k, []⟩) (fn := Go.Proofs.Tryd.f20) (c := Go.Proofs.Tryd.f20.body.getD .skip) mixed tdOk (ctsCons v_s_l01Cut (ctsCons v_s_l01List (ctsNil _ _ _ _ _))) Go.Proofs.Tryd.func20 (by kernel_rfl) (by kernel_rfl) (fun x => ?_)) S.s_l01Read_ok
  kernel_rfl
def ct_s_ReadFractions : Ct := ⟨[PK.ro Kd.str], true, [(false, [RC.own Kd.str]), (false, [RC.ro Kd.bool])], S.s_ReadFractions⟩
theorem v_s_ReadFractions : Valid Go.Proofs.Tryd.prog gl 10 ct_s_ReadFractions := by
  refine Valid.less (ps := [PK.ro Kd.str]) (tup := true) (rs := [(false, [RC.own Kd.str]), (false, [RC.ro Kd.bool])]) (g := P.s_ReadFractions) (fun k => valid (fx := ⟨⟨Go.Proofs.Tryd.prog, td, [(20, ct_s_l01Read)], [], []⟩, k, []⟩) (fn := Go.Proofs.Tryd.f10) (c := Go.Proofs.Tryd.f10.body.getD .skip) mixed tdOk (ctsCons v_s_l01Read (ctsNil _ _ _ _ _)) Go.Proofs.Tryd.func10 (by kernel_rfl) (by kernel_rfl) (fun x => ?_)) S.s_ReadFractions_ok
  kernel_rfl
def ct_l_FnExactReadFractions : Ct := ⟨[PK.ro Kd.str], false, [(false, [RC.ro Kd.bool])], S.l_FnExactReadFractions⟩
theorem v_l_FnExactReadFractions (hM : InM gl) (hR : InR gl) (hS : InS gl) : Valid Go.Proofs.Tryd.prog gl 4 ct_l_FnExactReadFractions := by
  refine Valid.less (ps := [PK.ro Kd.str]) (tup := false) (rs := [(false, [RC.ro Kd.bool])]) (g := P.l_FnExactReadFractions) (fun k => valid (fx := ⟨⟨Go.Proofs.Tryd.prog, td, [(12, ct_l_eqStringS), (13, ct_l_markStringS), (14, ct_l_heldStringS), (11, ct_i_ReadFractions), (10, ct_s_ReadFractions)], [], []⟩, k, []⟩) (fn := Go.Proofs.Tryd.f4) (c := Go.Proofs.Tryd.f4.body.getD .skip) mixed tdOk (ctsCons v_l_eqStringS (ctsCons v_l_markStringS (ctsCons v_l_heldStringS (ctsCons (v_i_ReadFractions hM hR hS) (ctsCons v_s_ReadFractions (ctsNil _ _ _ _ _)))))) Go.Proofs.Tryd.func4 (by kernel_rfl) (by kernel_rfl) (fun x => ?_)) S.l_FnExactReadFractions_ok
  kernel_rfl
end Go.Cm.LnReadFractions
end
