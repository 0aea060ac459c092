import Derived.Test.YtcbgagohjjdfeaaDoorPlMakeFraction
import Derived.Test.YtcbgagohjjdfeaaDoorChecked
import Derived.Test.YtcbgagohjjdfeaaDoorTrydShelf
import Derived.WalkKit
import Derived.BigCall
import Derived.BigGuard
import Derived.Lib.ItoaMem
import Derived.Lib.AppendIntMem
set_option linter.unusedVariables false
set_option maxRecDepth 100000
noncomputable section
namespace Go.Cm.LnMakeFraction
open Go.RowKit
variable {gl : List (Nat × List Value)}
theorem td2 : TdOk Go.Proofs.Tryd.prog 2 ⟨Kd.int IntKind.i64, 8, false, 0, []⟩ := .of (by kernel_rfl) (.inr (by kernel_rfl)) rfl (Go.Proofs.Tryd.underlying2)
theorem td3 : TdOk Go.Proofs.Tryd.prog 3 ⟨Kd.int IntKind.i64, 8, false, 0, []⟩ := .of (by kernel_rfl) (.inr (by kernel_rfl)) rfl (Go.Proofs.Tryd.underlying3)
theorem td4 : TdOk Go.Proofs.Tryd.prog 4 ⟨Kd.bool, 1, false, 0, []⟩ := .of (by kernel_rfl) (.inr (by kernel_rfl)) rfl (Go.Proofs.Tryd.underlying4)
theorem td5 : TdOk Go.Proofs.Tryd.prog 5 ⟨Kd.int IntKind.u8, 1, false, 0, []⟩ := .of (by kernel_rfl) (.inr (by kernel_rfl)) rfl (Go.Proofs.Tryd.underlying5)
theorem td9 : TdOk Go.Proofs.Tryd.prog 9 ⟨Kd.str, 16, false, 0, []⟩ := .of (by kernel_rfl) (.inr (by kernel_rfl)) rfl (Go.Proofs.Tryd.underlying9)
theorem td24 : TdOk Go.Proofs.Tryd.prog 24 ⟨Kd.sl (Kd.int IntKind.i64), 24, false, 2, []⟩ := .of (by kernel_rfl) (.inr (by kernel_rfl)) rfl (Go.Proofs.Tryd.underlying24)
theorem td43 : TdOk Go.Proofs.Tryd.prog 43 ⟨Kd.sl Kd.str, 24, false, 9, []⟩ := .of (by kernel_rfl) (.inr (by kernel_rfl)) rfl (Go.Proofs.Tryd.underlying43)
theorem td53 : TdOk Go.Proofs.Tryd.prog 53 ⟨Kd.st (Kd.pair Kd.bool (Kd.pair (Kd.sl (Kd.int IntKind.i64)) (Kd.sl (Kd.int IntKind.i64)))), 56, true, 0, [(0, 4), (1, 24), (2, 24)]⟩ := .of (by kernel_rfl) (.inr (by kernel_rfl)) rfl (⟨_, Go.Proofs.Tryd.underlying53, by kernel_rfl, by kernel_rfl⟩)
theorem td58 : TdOk Go.Proofs.Tryd.prog 58 ⟨Kd.sl (Kd.int IntKind.u32), 24, false, 89, []⟩ := .of (by kernel_rfl) (.inr (by kernel_rfl)) rfl (Go.Proofs.Tryd.underlying58)
theorem td60 : TdOk Go.Proofs.Tryd.prog 60 ⟨Kd.st (Kd.pair Kd.bool (Kd.pair (Kd.sl (Kd.int IntKind.u32)) (Kd.sl (Kd.int IntKind.u32)))), 56, true, 0, [(0, 4), (1, 58), (2, 58)]⟩ := .of (by kernel_rfl) (.inr (by kernel_rfl)) rfl (⟨_, Go.Proofs.Tryd.underlying60, by kernel_rfl, by kernel_rfl⟩)
theorem td63 : TdOk Go.Proofs.Tryd.prog 63 ⟨Kd.int IntKind.u64, 8, false, 0, []⟩ := .of (by kernel_rfl) (.inr (by kernel_rfl)) rfl (Go.Proofs.Tryd.underlying63)
theorem td75 : TdOk Go.Proofs.Tryd.prog 75 ⟨Kd.sl (Kd.int IntKind.u8), 24, false, 5, []⟩ := .of (by kernel_rfl) (.inr (by kernel_rfl)) rfl (Go.Proofs.Tryd.underlying75)
theorem td89 : TdOk Go.Proofs.Tryd.prog 89 ⟨Kd.int IntKind.u32, 4, false, 0, []⟩ := .of (by kernel_rfl) (.inr (by kernel_rfl)) rfl (Go.Proofs.Tryd.underlying89)
theorem td92 : TdOk Go.Proofs.Tryd.prog 92 ⟨Kd.int IntKind.u64, 8, false, 0, []⟩ := .of (by kernel_rfl) (.inr (by kernel_rfl)) rfl (Go.Proofs.Tryd.underlying92)
def td : List (Nat × Td) := [(2, ⟨Kd.int IntKind.i64, 8, false, 0, []⟩), (3, ⟨Kd.int IntKind.i64, 8, false, 0, []⟩), (4, ⟨Kd.bool, 1, false, 0, []⟩), (5, ⟨Kd.int IntKind.u8, 1, false, 0, []⟩), (9, ⟨Kd.str, 16, false, 0, []⟩), (24, ⟨Kd.sl (Kd.int IntKind.i64), 24, false, 2, []⟩), (43, ⟨Kd.sl Kd.str, 24, false, 9, []⟩), (53, ⟨Kd.st (Kd.pair Kd.bool (Kd.pair (Kd.sl (Kd.int IntKind.i64)) (Kd.sl (Kd.int IntKind.i64)))), 56, true, 0, [(0, 4), (1, 24), (2, 24)]⟩), (58, ⟨Kd.sl (Kd.int IntKind.u32), 24, false, 89, []⟩), (60, ⟨Kd.st (Kd.pair Kd.bool (Kd.pair (Kd.sl (Kd.int IntKind.u32)) (Kd.sl (Kd.int IntKind.u32)))), 56, true, 0, [(0, 4), (1, 58), (2, 58)]⟩), (63, ⟨Kd.int IntKind.u64, 8, false, 0, []⟩), (75, ⟨Kd.sl (Kd.int IntKind.u8), 24, false, 5, []⟩), (89, ⟨Kd.int IntKind.u32, 4, false, 0, []⟩), (92, ⟨Kd.int IntKind.u64, 8, false, 0, []⟩)]
theorem tdOk : TdsOk ⟨Go.Proofs.Tryd.prog, td, [], [], []⟩ Go.Proofs.Tryd.prog := tdsCons td2 (tdsCons td3 (tdsCons td4 (tdsCons td5 (tdsCons td9 (tdsCons td24 (tdsCons td43 (tdsCons td53 (tdsCons td58 (tdsCons td60 (tdsCons td63 (tdsCons td75 (tdsCons td89 (tdsCons td92 (tdsNil _ _ _ _))))))))))))))
theorem mixed : Go.Proofs.Tryd.prog.follows .mixedOrders = true := by kernel_rfl
/-- Package-level variables that are laid. -/
def InP (gl : List (Nat × List Value)) : Prop := (0, Go.Lib.pow10Tab.map fun z => Value.int .u64 z) ∈ gl
def InM (gl : List (Nat × List Value)) : Prop := ∃ m, (3, [Value.int .i64 m]) ∈ gl
def InS (gl : List (Nat × List Value)) : Prop := ∃ t p, (1, [Value.iface t p]) ∈ gl
def InR (gl : List (Nat × List Value)) : Prop := ∃ t p, (2, [Value.iface t p]) ∈ gl
def ct_i_magnitude : Ct := ⟨[PK.ro (Kd.int IntKind.i64)], false, [(false, [RC.ro (Kd.int IntKind.u64)])], S.i_magnitude⟩
theorem v_i_magnitude : Valid Go.Proofs.Tryd.prog gl 46 ct_i_magnitude := by
  refine Valid.less (ps := [PK.ro (Kd.int IntKind.i64)]) (tup := false) (rs := [(false, [RC.ro (Kd.int IntKind.u64)])]) (g := P.i_magnitude) (fun k => valid (fx := ⟨⟨Go.Proofs.Tryd.prog, td, [], [], []⟩, k, []⟩) (fn := Go.Proofs.Tryd.f46) (c := Go.Proofs.Tryd.f46.body.getD .skip) mixed tdOk (ctsNil _ _ _ _ _) Go.Proofs.Tryd.func46 (by kernel_rfl) (by kernel_rfl) (fun x => ?_)) S.i_magnitude_ok
  kernel_rfl
def ct_i_nat_trim : Ct := ⟨[PK.ro (Kd.sl (Kd.int IntKind.u32))], false, [(false, [RC.ro (Kd.sl (Kd.int IntKind.u32))])], S.i_nat_trim⟩
theorem v_i_nat_trim : Valid Go.Proofs.Tryd.prog gl 70 ct_i_nat_trim := by
  refine Valid.less (ps := [PK.ro (Kd.sl (Kd.int IntKind.u32))]) (tup := false) (rs := [(false, [RC.ro (Kd.sl (Kd.int IntKind.u32))])]) (g := P.i_nat_trim) (fun k => valid (fx := ⟨⟨Go.Proofs.Tryd.prog, td, [], [], []⟩, k, [(1, [(0, Sp.dat false (Kd.sl (Kd.int IntKind.u32)))])]⟩) (fn := Go.Proofs.Tryd.f70) (c := Go.Proofs.Tryd.f70.body.getD .skip) mixed tdOk (ctsNil _ _ _ _ _) Go.Proofs.Tryd.func70 (by kernel_rfl) (by kernel_rfl) (fun x => ?_)) S.i_nat_trim_ok
  kernel_rfl
def ct_i_natOf : Ct := ⟨[PK.ro (Kd.int IntKind.u64)], false, [(false, [RC.ro (Kd.sl (Kd.int IntKind.u32))])], S.i_natOf⟩
theorem v_i_natOf : Valid Go.Proofs.Tryd.prog gl 45 ct_i_natOf := by
  refine Valid.less (ps := [PK.ro (Kd.int IntKind.u64)]) (tup := false) (rs := [(false, [RC.ro (Kd.sl (Kd.int IntKind.u32))])]) (g := P.i_natOf) (fun k => valid (fx := ⟨⟨Go.Proofs.Tryd.prog, td, [(70, ct_i_nat_trim)], [], []⟩, k, []⟩) (fn := Go.Proofs.Tryd.f45) (c := Go.Proofs.Tryd.f45.body.getD .skip) mixed tdOk (ctsCons v_i_nat_trim (ctsNil _ _ _ _ _)) Go.Proofs.Tryd.func45 (by kernel_rfl) (by kernel_rfl) (fun x => ?_)) S.i_natOf_ok
  kernel_rfl
def ct_math_bits_LeadingZeros32 : Ct := ⟨[PK.ro (Kd.int IntKind.u32)], false, [(false, [RC.ro (Kd.int IntKind.i64)])], S.math_bits_LeadingZeros32⟩
theorem v_math_bits_LeadingZeros32 : Valid Go.Proofs.Tryd.prog gl 102 ct_math_bits_LeadingZeros32 := by
  refine told_flat (enters_of Go.Proofs.Tryd.func102 (by kernel_rfl) (by kernel_rfl)) (fun _ _ _ _ _ _ => trivial) (fun w M0 W0 us x γ hl hW ha r hr => ?_)
  obtain ⟨n, q⟩ := x
  obtain ⟨u1, _, rfl, ⟨c1, h1, h1'⟩, rfl⟩ := ha
  cases h1'; subst h1
  unfold S.math_bits_LeadingZeros32 at hr
  split at hr
  case isFalse => cases hr
  rename_i hc
  cases hr
  refine (Go.Proofs.Tryd.bits_LeadingZeros32 n w hc.1 hc.2).mono ?_
  rintro e w' ⟨rfl, rfl⟩
  exact ⟨[_], rfl, Below.refl _ _, fun M' => ⟨[_], rfl, fun _ => rfl, rfl⟩⟩

def ct_i_nat_cmp : Ct := ⟨[PK.bo (Kd.sl (Kd.int IntKind.u32)), PK.bo (Kd.sl (Kd.int IntKind.u32))], false, [(false, [RC.ro (Kd.int IntKind.i64)])], S.i_nat_cmp⟩
theorem v_i_nat_cmp : Valid Go.Proofs.Tryd.prog gl 76 ct_i_nat_cmp := by
  refine Valid.less (ps := [PK.bo (Kd.sl (Kd.int IntKind.u32)), PK.bo (Kd.sl (Kd.int IntKind.u32))]) (tup := false) (rs := [(false, [RC.ro (Kd.int IntKind.i64)])]) (g := P.i_nat_cmp) (fun k => valid (fx := ⟨⟨Go.Proofs.Tryd.prog, td, [], [], []⟩, k, [(6, [(5, Sp.dat false (Kd.int IntKind.i64)), (0, Sp.dat true (Kd.sl (Kd.int IntKind.u32))),   (1, Sp.dat true (Kd.sl (Kd.int IntKind.u32)))])]⟩) (fn := Go.Proofs.Tryd.f76) (c := Go.Proofs.Tryd.f76.body.getD .skip) mixed tdOk (ctsNil _ _ _ _ _) Go.Proofs.Tryd.func76 (by kernel_rfl) (by kernel_rfl) (fun x => ?_)) S.i_nat_cmp_ok
  kernel_rfl
def ct_i_nat_divSmall : Ct := ⟨[PK.bo (Kd.sl (Kd.int IntKind.u32)), PK.ro (Kd.int IntKind.u32)], true, [(false, [RC.ro (Kd.sl (Kd.int IntKind.u32))]), (false, [RC.ro (Kd.int IntKind.u32)])], S.i_nat_divSmall⟩
theorem v_i_nat_divSmall : Valid Go.Proofs.Tryd.prog gl 101 ct_i_nat_divSmall := by
  refine Valid.less (ps := [PK.bo (Kd.sl (Kd.int IntKind.u32)), PK.ro (Kd.int IntKind.u32)]) (tup := true) (rs := [(false, [RC.ro (Kd.sl (Kd.int IntKind.u32))]), (false, [RC.ro (Kd.int IntKind.u32)])]) (g := P.i_nat_divSmall) (fun k => valid (fx := ⟨⟨Go.Proofs.Tryd.prog, td, [(70, ct_i_nat_trim)], [], []⟩, k, [(3, [(8, Sp.dat false (Kd.int IntKind.i64)), (7, Sp.dat false (Kd.int IntKind.u64)), (0, Sp.dat true (Kd.sl (Kd.int IntKind.u32))),   (6, Sp.own (88) true (Kd.int IntKind.u32)), (1, Sp.dat false (Kd.int IntKind.u32))])]⟩) (fn := Go.Proofs.Tryd.f101) (c := Go.Proofs.Tryd.f101.body.getD .skip) mixed tdOk (ctsCons v_i_nat_trim (ctsNil _ _ _ _ _)) Go.Proofs.Tryd.func101 (by kernel_rfl) (by kernel_rfl) (fun x => ?_)) S.i_nat_divSmall_ok
  kernel_rfl
def ct_i_nat_shifted : Ct := ⟨[PK.bo (Kd.sl (Kd.int IntKind.u32)), PK.ro (Kd.int IntKind.i64)], false, [(false, [RC.own (Kd.int IntKind.u32)])], S.i_nat_shifted⟩
theorem v_i_nat_shifted : Valid Go.Proofs.Tryd.prog gl 103 ct_i_nat_shifted := by
  refine Valid.less (ps := [PK.bo (Kd.sl (Kd.int IntKind.u32)), PK.ro (Kd.int IntKind.i64)]) (tup := false) (rs := [(false, [RC.own (Kd.int IntKind.u32)])]) (g := P.i_nat_shifted) (fun k => valid (fx := ⟨⟨Go.Proofs.Tryd.prog, td, [], [], []⟩, k, [(3, [(15, Sp.dat false (Kd.int IntKind.i64)), (14, Sp.dat false (Kd.int IntKind.i64)), (13, Sp.dat true (Kd.sl (Kd.int IntKind.u32))),   (1, Sp.dat false (Kd.int IntKind.i64)), (5, Sp.own (96) true (Kd.int IntKind.u32))])]⟩) (fn := Go.Proofs.Tryd.f103) (c := Go.Proofs.Tryd.f103.body.getD .skip) mixed tdOk (ctsNil _ _ _ _ _) Go.Proofs.Tryd.func103 (by kernel_rfl) (by kernel_rfl) (fun x => ?_)) S.i_nat_shifted_ok
  kernel_rfl
def ct_i_takeAway : Ct := ⟨[PK.mu (Kd.int IntKind.u32), PK.bo (Kd.sl (Kd.int IntKind.u32)), PK.ro (Kd.int IntKind.u64)], false, [(false, [RC.ro Kd.bool])], S.i_takeAway⟩
theorem v_i_takeAway : Valid Go.Proofs.Tryd.prog gl 104 ct_i_takeAway := by
  refine Valid.less (ps := [PK.mu (Kd.int IntKind.u32), PK.bo (Kd.sl (Kd.int IntKind.u32)), PK.ro (Kd.int IntKind.u64)]) (tup := false) (rs := [(false, [RC.ro Kd.bool])]) (g := P.i_takeAway) (fun k => valid (fx := ⟨⟨Go.Proofs.Tryd.prog, td, [], [], []⟩, k, [(18, [(59, Sp.dat false (Kd.int IntKind.i64)), (58, Sp.dat false (Kd.int IntKind.i64)), (7, Sp.dat false (Kd.int IntKind.u64)),   (0, Sp.own (0) false (Kd.int IntKind.u32)), (1, Sp.dat true (Kd.sl (Kd.int IntKind.u32)))]), (3, [(14, Sp.dat false (Kd.int IntKind.i64)), (13, Sp.dat false (Kd.int IntKind.i64)), (1, Sp.dat true (Kd.sl (Kd.int IntKind.u32))),   (7, Sp.dat false (Kd.int IntKind.u64)), (2, Sp.dat false (Kd.int IntKind.u64)), (0, Sp.own (0) false (Kd.int IntKind.u32)),   (8, Sp.dat false (Kd.int IntKind.i64))])]⟩) (fn := Go.Proofs.Tryd.f104) (c := Go.Proofs.Tryd.f104.body.getD .skip) mixed tdOk (ctsNil _ _ _ _ _) Go.Proofs.Tryd.func104 (by kernel_rfl) (by kernel_rfl) (fun x => ?_)) S.i_takeAway_ok
  kernel_rfl
def ct_i_nat_div : Ct := ⟨[PK.ro (Kd.sl (Kd.int IntKind.u32)), PK.ro (Kd.sl (Kd.int IntKind.u32))], true, [(false, [RC.ro (Kd.sl (Kd.int IntKind.u32))]), (false, [RC.ro (Kd.sl (Kd.int IntKind.u32))])], S.i_nat_div⟩
theorem trimN_snoc (xs : List Int) (x : Int) : trimN (xs ++ [x]) = if x = 0 then trimN xs else xs.length + 1 := by
  unfold trimN
  rw [List.reverse_append]
  by_cases h : x = 0
  · simp [h, List.dropWhile]
  · simp [h, List.dropWhile]
theorem trimN_le (xs : List Int) : trimN xs ≤ xs.length := by
  unfold trimN
  have := (List.dropWhile_sublist (fun x : Int => x == 0) (l := xs.reverse)).length_le
  simpa using this
def lenOfV : Value → Nat
  | .slice _ m _ => m
  | _ => 0
set_option maxHeartbeats 800000 in
set_option maxRecDepth 100000 in
theorem trim_calls (b o real : Nat) (xs : List Int) (w : World) (hle : xs.length ≤ real) (hbig : xs.length ≤ 1000000000000) (hc : ∀ (i : Nat) (x : Int), xs[i]? = some x → w.cell? ⟨b, o + i, none⟩ = some (.int .u32 x)) :
    Calls Go.Proofs.Tryd.prog 70 #[.slice (some ⟨b, o, none⟩) xs.length real] w fun e w' => e = .returned (.slice (some ⟨b, o, none⟩) (trimN xs) real) ∧ w' = w := by
  go_enter Go.Proofs.Tryd.func70, Go.Proofs.Tryd.ntmps70
  go_wp2
  go_loopw [0] (fun v wr => ∃ m : Nat, m ≤ xs.length ∧ v = .slice (some ⟨b, o, none⟩) m real ∧ wr = w ∧ trimN (xs.take m) = trimN xs) (fun v _ => lenOfV v)
  case atStart => exact ⟨xs.length, Nat.le_refl _, rfl, rfl, by rw [List.take_length]⟩
  case round =>
    obtain ⟨m, hm, rfl, rfl, ht⟩ := hrel
    by_cases h0 : 0 < m
    · obtain ⟨k, rfl⟩ : ∃ k, m = k + 1 := ⟨m - 1, by omega⟩
      have hx : xs[k]? = some xs[k] := List.getElem?_eq_getElem (by omega)
      have hcx := hc k _ hx
      have hw : wrap64 (((k + 1 : Nat) : Int) - 1) = (k : Int) := by
        have e : ((k + 1 : Nat) : Int) - 1 = (k : Int) := by omega
        rw [e]
        exact IntWalk.wrap64_in _ (by omega)
      have ht' : trimN (xs.take (k + 1)) = if xs[k] = 0 then trimN (xs.take k) else k + 1 := by
        rw [← List.take_append_getElem (show k < xs.length by omega), trimN_snoc]
        have : (xs.take k).length = k := by simp; omega
        rw [this]
      go_wp2
      · have hz : (xs[k] == 0) = true := by assumption
        have hz' : xs[k] = 0 := by simpa using hz
        rw [if_pos hz'] at ht'
        exact ⟨⟨k, by omega, rfl, trivial, by rw [← ht', ht]⟩, Nat.lt_succ_self k⟩
      · have hz : (xs[k] == 0) = false := by assumption
        have hz' : ¬ xs[k] = 0 := by simpa using hz
        rw [if_neg hz'] at ht'
        rw [← ht, ht']
        go_ret
        exact ⟨rfl, rfl⟩
    · have h1 : m = 0 := by omega
      subst h1
      go_wp2
      have h2 : trimN xs = 0 := by rw [← ht]; rfl
      rw [h2]
      go_ret
      exact ⟨rfl, rfl⟩
set_option maxHeartbeats 800000 in
set_option maxRecDepth 100000 in
theorem trim_calls0 (A : Option Addr) (real : Nat) (w : World) :
    Calls Go.Proofs.Tryd.prog 70 #[.slice A 0 real] w fun e w' => e = .returned (.slice A 0 real) ∧ w' = w := by
  go_enter Go.Proofs.Tryd.func70, Go.Proofs.Tryd.ntmps70
  go_wp2
  refine wp_loop_rounds 1 ?_
  rw [rounds_succ]
  go_wp2
  go_ret
  exact ⟨rfl, rfl⟩
theorem shr_trim : ShrOk Go.Proofs.Tryd.prog 70 IntKind.u32 trimN := by
  refine ⟨enters_of Go.Proofs.Tryd.func70 (by kernel_rfl) (by kernel_rfl), fun w u xs A real hbig hsl hno hc => ?_⟩
  obtain ⟨A', rfl, hle, hA⟩ := hsl
  rcases Nat.eq_zero_or_pos real with h0 | h0
  · have h1 : xs = [] := List.eq_nil_of_length_eq_zero (by omega)
    subst h1
    refine (trim_calls0 A' real w).mono ?_
    rintro e w' ⟨rfl, rfl⟩
    exact ⟨rfl, Nat.le_refl _, _, rfl, rfl, A', rfl, Nat.zero_le _, fun h => by omega⟩
  · obtain ⟨b, o, rfl, rfl⟩ := hA h0
    refine (trim_calls b o real xs w hle hbig (hc b o rfl)).mono ?_
    rintro e w' ⟨rfl, rfl⟩
    have := trimN_le xs
    exact ⟨rfl, this, _, rfl, rfl, _, rfl, by omega, fun _ => ⟨b, o, rfl, rfl⟩⟩

theorem v_i_nat_div : Valid Go.Proofs.Tryd.prog gl 69 ct_i_nat_div := by
  refine Valid.less (ps := [PK.ro (Kd.sl (Kd.int IntKind.u32)), PK.ro (Kd.sl (Kd.int IntKind.u32))]) (tup := true) (rs := [(false, [RC.ro (Kd.sl (Kd.int IntKind.u32))]), (false, [RC.ro (Kd.sl (Kd.int IntKind.u32))])]) (g := P.i_nat_div) (fun k => valid (fx := ⟨⟨Go.Proofs.Tryd.prog, td, [(102, ct_math_bits_LeadingZeros32), (70, ct_i_nat_trim), (76, ct_i_nat_cmp), (101, ct_i_nat_divSmall), (103, ct_i_nat_shifted), (104, ct_i_takeAway)], [], [(70, IntKind.u32, trimN)]⟩, k, [(26, [(148, Sp.dat false (Kd.int IntKind.i64)), (147, Sp.dat false (Kd.int IntKind.i64)),   (9, Sp.own (400) true (Kd.int IntKind.u32)), (8, Sp.dat false (Kd.int IntKind.i64)),   (13, Sp.own (592) true (Kd.int IntKind.u32))]), (17, [(17, Sp.dat false (Kd.int IntKind.u64)), (12, Sp.dat false (Kd.int IntKind.u64)), (18, Sp.dat false (Kd.int IntKind.u64)),   (9, Sp.own (400) true (Kd.int IntKind.u32)), (15, Sp.dat false (Kd.int IntKind.i64)), (11, Sp.dat false (Kd.int IntKind.u64)),   (14, Sp.dat false (Kd.int IntKind.i64)), (10, Sp.dat false (Kd.sl (Kd.int IntKind.u32))),   (13, Sp.own (592) true (Kd.int IntKind.u32)), (8, Sp.dat false (Kd.int IntKind.i64))]), (12, [(14, Sp.dat false (Kd.int IntKind.i64)), (10, Sp.dat false (Kd.sl (Kd.int IntKind.u32))),   (9, Sp.own (400) true (Kd.int IntKind.u32)), (11, Sp.dat false (Kd.int IntKind.u64)), (12, Sp.dat false (Kd.int IntKind.u64)),   (13, Sp.own (592) true (Kd.int IntKind.u32)), (8, Sp.dat false (Kd.int IntKind.i64))])]⟩) (fn := Go.Proofs.Tryd.f69) (c := Go.Proofs.Tryd.f69.body.getD .skip) mixed tdOk (ctsCons v_math_bits_LeadingZeros32 (ctsCons v_i_nat_trim (ctsCons v_i_nat_cmp (ctsCons v_i_nat_divSmall (ctsCons v_i_nat_shifted (ctsCons v_i_takeAway (ctsShr shr_trim))))))) Go.Proofs.Tryd.func69 (by kernel_rfl) (by kernel_rfl) (fun x => ?_)) S.i_nat_div_ok
  kernel_rfl
def ct_i_nat_small : Ct := ⟨[PK.bo (Kd.sl (Kd.int IntKind.u32))], true, [(false, [RC.ro (Kd.int IntKind.u64)]), (false, [RC.ro Kd.bool])], S.i_nat_small⟩
theorem v_i_nat_small : Valid Go.Proofs.Tryd.prog gl 100 ct_i_nat_small := by
  refine Valid.less (ps := [PK.bo (Kd.sl (Kd.int IntKind.u32))]) (tup := true) (rs := [(false, [RC.ro (Kd.int IntKind.u64)]), (false, [RC.ro Kd.bool])]) (g := P.i_nat_small) (fun k => valid (fx := ⟨⟨Go.Proofs.Tryd.prog, td, [], [], []⟩, k, [(3, [(5, Sp.dat false (Kd.int IntKind.i64)), (0, Sp.dat true (Kd.sl (Kd.int IntKind.u32))), (4, Sp.dat false (Kd.int IntKind.u64))])]⟩) (fn := Go.Proofs.Tryd.f100) (c := Go.Proofs.Tryd.f100.body.getD .skip) mixed tdOk (ctsNil _ _ _ _ _) Go.Proofs.Tryd.func100 (by kernel_rfl) (by kernel_rfl) (fun x => ?_)) S.i_nat_small_ok
  kernel_rfl
def ct_i_nat_gcd : Ct := ⟨[PK.ro (Kd.sl (Kd.int IntKind.u32)), PK.ro (Kd.sl (Kd.int IntKind.u32))], false, [(false, [RC.ro (Kd.sl (Kd.int IntKind.u32))])], S.i_nat_gcd⟩
theorem v_i_nat_gcd : Valid Go.Proofs.Tryd.prog gl 68 ct_i_nat_gcd := by
  refine Valid.less (ps := [PK.ro (Kd.sl (Kd.int IntKind.u32)), PK.ro (Kd.sl (Kd.int IntKind.u32))]) (tup := false) (rs := [(false, [RC.ro (Kd.sl (Kd.int IntKind.u32))])]) (g := P.i_nat_gcd) (fun k => valid (fx := ⟨⟨Go.Proofs.Tryd.prog, td, [(45, ct_i_natOf), (100, ct_i_nat_small), (69, ct_i_nat_div)], [], []⟩, k, [(5, [(7, Sp.dat false (Kd.int IntKind.u64)), (5, Sp.dat false (Kd.int IntKind.u64))]), (1, [(1, Sp.dat false (Kd.sl (Kd.int IntKind.u32))), (0, Sp.dat false (Kd.sl (Kd.int IntKind.u32)))])]⟩) (fn := Go.Proofs.Tryd.f68) (c := Go.Proofs.Tryd.f68.body.getD .skip) mixed tdOk (ctsCons v_i_natOf (ctsCons v_i_nat_small (ctsCons v_i_nat_div (ctsNil _ _ _ _ _)))) Go.Proofs.Tryd.func68 (by kernel_rfl) (by kernel_rfl) (fun x => ?_)) S.i_nat_gcd_ok
  kernel_rfl
def ct_i_lowest : Ct := ⟨[PK.ro Kd.bool, PK.ro (Kd.sl (Kd.int IntKind.u32)), PK.ro (Kd.sl (Kd.int IntKind.u32))], false, [(true, [RC.ro (Kd.st (Kd.pair Kd.bool (Kd.pair (Kd.sl (Kd.int IntKind.u32)) (Kd.sl (Kd.int IntKind.u32)))))])], S.i_lowest⟩
theorem v_i_lowest : Valid Go.Proofs.Tryd.prog gl 44 ct_i_lowest := by
  refine Valid.less (ps := [PK.ro Kd.bool, PK.ro (Kd.sl (Kd.int IntKind.u32)), PK.ro (Kd.sl (Kd.int IntKind.u32))]) (tup := false) (rs := [(true, [RC.ro (Kd.st (Kd.pair Kd.bool (Kd.pair (Kd.sl (Kd.int IntKind.u32)) (Kd.sl (Kd.int IntKind.u32)))))])]) (g := P.i_lowest) (fun k => valid (fx := ⟨⟨Go.Proofs.Tryd.prog, td, [(45, ct_i_natOf), (69, ct_i_nat_div), (68, ct_i_nat_gcd)], [], []⟩, k, []⟩) (fn := Go.Proofs.Tryd.f44) (c := Go.Proofs.Tryd.f44.body.getD .skip) mixed tdOk (ctsCons v_i_natOf (ctsCons v_i_nat_div (ctsCons v_i_nat_gcd (ctsNil _ _ _ _ _)))) Go.Proofs.Tryd.func44 (by kernel_rfl) (by kernel_rfl) (fun x => ?_)) S.i_lowest_ok
  kernel_rfl
def ct_strconv_FormatUint : Ct := ⟨[PK.ro (Kd.int IntKind.u64), PK.ro (Kd.int IntKind.i64)], false, [(false, [RC.ro Kd.str])], S.strconv_FormatUint⟩
set_option maxHeartbeats 6400000 in
set_option maxRecDepth 100000 in
open Go.Proofs Go.Shelf Go.RowKit Go.Sort Go.Lib in
theorem fu_small (i : Nat) (hi : i < 100) (w : World) :
    Calls Go.Proofs.Tryd.prog 141 #[.int .u64 i, .int .i64 10] w fun e w' => e = .returned (.string ⟨(Lib.decDigits i).toArray⟩) ∧ w' = w := by
  have eSm : ∀ args w, (callFunc 79 args).run Go.Proofs.Tryd.prog w = .ok (.enter 79 args) w := Go.Proofs.enters_of Go.Proofs.Tryd.func79 (by kernel_rfl) rfl
  go_enter Go.Proofs.Tryd.func141, Go.Proofs.Tryd.ntmps141
  go_wp2_with (go_at_fn 79; refine (Go.Proofs.Tryd.internal_strconv_small i hi _).mono ?_; rintro e w' ⟨rfl, rfl⟩)
  go_ret
  exact ⟨rfl, rfl⟩
set_option maxHeartbeats 12800000 in
set_option maxRecDepth 100000 in
open Go.Proofs Go.Shelf Go.RowKit Go.Sort Go.Lib in
theorem fu_big (u : Nat) (hu : 100 ≤ u) (hu64 : u < 18446744073709551616) (w : World)
    (htab : Lib.TabIs Go.Proofs.Tryd.prog w "internal/strconv.uint64pow10" .u64 Lib.pow10Tab) :
    Calls Go.Proofs.Tryd.prog 141 #[.int .u64 u, .int .i64 10] w fun e w' => e = .returned (.string ⟨(Lib.decDigits u).toArray⟩) ∧ ∃ k os, w' = grow (w.drewN k) os := by
  have eNd : ∀ args w, (callFunc 80 args).run Go.Proofs.Tryd.prog w = .ok (.enter 80 args) w := Go.Proofs.enters_of Go.Proofs.Tryd.func80 (by kernel_rfl) rfl
  have eFb : ∀ args w, (callFunc 81 args).run Go.Proofs.Tryd.prog w = .ok (.enter 81 args) w := Go.Proofs.enters_of Go.Proofs.Tryd.func81 (by kernel_rfl) rfl
  have hu1 : 1 ≤ u := by omega
  have hnd20 : Lib.nDigits u ≤ 20 := by have := Lib.numDigits_eq u hu1 hu64; split at this <;> omega
  have hal : Go.Proofs.Tryd.prog.arrayLen 103 = 24 := by simp [Program.arrayLen, Go.Proofs.Tryd.underlying103]
  have hsl : ∀ W, (Instr.sliceAt 103 (.pointer (some ⟨w.heap.size, 0, none⟩)) none (some (.int .i64 (Lib.nDigits u : Int))) none).run Go.Proofs.Tryd.prog W = .ok (.slice (some ⟨w.heap.size, 0, none⟩) (Lib.nDigits u) 24) W := fun W => by
    rw [run_sliceAt_array_h W 103 ⟨w.heap.size, 0, none⟩ (by simp [Program.arrayLen, Program.elem, Go.Proofs.Tryd.underlying103]) .i64 (Lib.nDigits u : Int) (by omega) (by rw [hal]; omega)]
    go_simp
  have hH0 := Lib.holds_zero0 w 103 (Lib.nDigits u) (by omega)
  have hfmt := Go.Proofs.Tryd.internal_strconv_formatBase10 w.heap.size 0 24 u (Array.replicate (Lib.nDigits u) 0) (w.alloc (.cells Lib.zeros24 103)) hH0 (by rw [Array.size_replicate]; exact Lib.lt_pow_nDigits u) hu64 (by rw [Array.size_replicate]; omega)
  rw [Array.size_replicate] at hfmt
  have HH0 := Lib.hid hH0
  have iu : (100 : Int) ≤ (u : Int) := by omega
  clear hH0 hal
  go_enter Go.Proofs.Tryd.func141, Go.Proofs.Tryd.ntmps141
  go_wp2_with (first
    | (go_at_fn 80; refine (Go.Proofs.Tryd.internal_strconv_numDigits u hu1 hu64 _ (Lib.tabIs_alloc htab _)).mono ?_; rintro e w' ⟨rfl, rfl⟩))
  go_at_fn 81
  refine hfmt.mono ?_
  rintro e w' ⟨rfl, k, v', dk, rfl, hF⟩
  have hcv : (convert 75 9 (.slice (some ⟨w.heap.size, 0, none⟩) (Lib.nDigits u) 24)).run Go.Proofs.Tryd.prog ((putRow (fun (b : UInt8) => Value.int .u8 (b.toNat : Int)) (w.alloc (.cells Lib.zeros24 103)) w.heap.size 0 dk).drewN k) = .ok (.string ⟨(Lib.decDigits u).toArray⟩) ((putRow (fun (b : UInt8) => Value.int .u8 (b.toNat : Int)) (w.alloc (.cells Lib.zeros24 103)) w.heap.size 0 dk).drewN k) := by
    have h := run_convert_bytes_back (P := Go.Proofs.Tryd.prog) ((putRow (fun (b : UInt8) => Value.int .u8 (b.toNat : Int)) (w.alloc (.cells Lib.zeros24 103)) w.heap.size 0 dk).drewN k) 75 9 5 ⟨w.heap.size, 0, none⟩ 24 (Lib.decDigits u) Go.Proofs.Tryd.underlying75 Go.Proofs.Tryd.underlying5 Go.Proofs.Tryd.underlying9 (fun j hj => by
      rw [Lib.row_is_numeral hF j hj, Lib.add_plain, World.cell?_drewN]
      exact cell?_putRow (fun (b : UInt8) => Value.int .u8 (b.toNat : Int)) _ w.heap.size 0 _ dk HH0.out (by rw [hF.size, Array.size_replicate]) j (by rw [hF.size]; rw [Lib.decDigits_length] at hj; exact hj))
    rw [Lib.decDigits_length] at h
    exact h
  go_wp2
  go_ret
  obtain ⟨os, eo⟩ := Lib.fin_at w (.cells Lib.zeros24 103) dk k 0
  exact ⟨rfl, k, os, eo⟩
set_option maxRecDepth 100000 in
open Go.Proofs Go.Shelf Go.RowKit Go.Sort Go.Lib in
theorem fu_pub (n : Nat) (h : n < 18446744073709551616) (w : World)
    (htab : Lib.TabIs Go.Proofs.Tryd.prog w "internal/strconv.uint64pow10" .u64 Lib.pow10Tab) :
    Calls Go.Proofs.Tryd.prog 127 #[.int .u64 n, .int .i64 10] w fun e w' => e = .returned (.string ⟨(Lib.decDigits n).toArray⟩) ∧ ∃ k os, w' = grow (w.drewN k) os := by
  have eFu : ∀ args w, (callFunc 141 args).run Go.Proofs.Tryd.prog w = .ok (.enter 141 args) w := Go.Proofs.enters_of Go.Proofs.Tryd.func141 (by kernel_rfl) rfl
  have hin : Calls Go.Proofs.Tryd.prog 141 #[.int .u64 n, .int .i64 10] w fun e w' => e = .returned (.string ⟨(Lib.decDigits n).toArray⟩) ∧ ∃ k os, w' = grow (w.drewN k) os := by
    by_cases h1 : n < 100
    · refine (fu_small n h1 w).mono ?_
      rintro e w' ⟨rfl, rfl⟩
      exact ⟨rfl, 0, #[], by simp [World.drewN_zero]⟩
    · exact fu_big n (by omega) h w htab
  go_enter Go.Proofs.Tryd.func127, Go.Proofs.Tryd.ntmps127
  go_wp2_with (go_at_fn 141; refine hin.mono ?_; rintro e w' ⟨rfl, k, os, rfl⟩)
  go_ret
  exact ⟨rfl, k, os, rfl⟩
theorem belowGrowU (w : World) (k : Nat) (os : Array Obj) : Below w.heap.size w (Go.Sort.grow (w.drewN k) os) := ⟨rfl, rfl, rfl, by simp [Go.Sort.grow, World.drewN], fun b hb => by simp [Go.Sort.grow, World.drewN, Array.getElem?_append_left hb]⟩
theorem v_strconv_FormatUint (hP : InP gl) : Valid Go.Proofs.Tryd.prog gl 127 ct_strconv_FormatUint := by
  refine told_flat (enters_of Go.Proofs.Tryd.func127 (by kernel_rfl) (by kernel_rfl)) (fun _ _ _ _ _ _ => trivial) (fun w M0 W0 us x γ hl hW ha r hr => ?_)
  obtain ⟨n, b, q⟩ := x
  obtain ⟨u1, _, rfl, ⟨c1, h1, h1'⟩, u2, _, rfl, ⟨c2, h2, h2'⟩, rfl⟩ := ha
  cases h1'; cases h2'; subst h1; subst h2
  unfold S.strconv_FormatUint at hr
  split at hr
  case isFalse => cases hr
  rename_i hc
  obtain ⟨hb, h0, h3⟩ := hc
  cases hr
  dsimp only at hb h0 h3
  subst hb
  obtain ⟨m, rfl⟩ : ∃ m : Nat, n = (m : Int) := ⟨n.toNat, (Int.toNat_of_nonneg h0).symm⟩
  rw [Int.toNat_natCast]
  have htab : Lib.TabIs Go.Proofs.Tryd.prog w "internal/strconv.uint64pow10" .u64 Lib.pow10Tab := laid_var hl hP (by kernel_rfl)
  refine (fu_pub m (by omega) w htab).mono ?_
  rintro e w' ⟨rfl, k, os, rfl⟩
  exact ⟨[_], rfl, belowGrowU _ _ _, fun M' => ⟨[_], rfl, fun _ => rfl, rfl⟩⟩

def ct_strings_Join : Ct := ⟨[PK.bo (Kd.sl Kd.str), PK.ro Kd.str], false, [(false, [RC.ro Kd.str])], S.strings_Join⟩
theorem v_strings_Join : Valid Go.Proofs.Tryd.prog gl 55 ct_strings_Join := by
  refine told_flat (enters_of Go.Proofs.Tryd.func55 (by kernel_rfl) (by kernel_rfl)) (fun _ _ _ _ _ _ => trivial) (fun w M0 W0 us x γ hl hW ha r hr => ?_)
  obtain ⟨xs, sep, q⟩ := x
  obtain ⟨u1, _, rfl, ⟨c1, h1, h1'⟩, u2, _, rfl, ⟨c2, h2, h2'⟩, rfl⟩ := ha
  cases h2'; subst h2
  obtain ⟨A, c, rfl, hlc, hel⟩ := h1'
  subst h1
  unfold S.strings_Join at hr
  split at hr
  case isFalse => cases hr
  rename_i hc
  obtain ⟨hn, hj⟩ := hc
  cases hr
  dsimp only at hn hj
  by_cases h0 : xs.length = 0
  · have : xs = [] := List.eq_nil_of_length_eq_zero h0
    subst this
    refine (Go.Proofs.Tryd.strings_Join_none A c sep w).mono ?_
    rintro e w' ⟨rfl, rfl⟩
    exact ⟨[_], rfl, Below.refl _ _, fun M' => ⟨[_], rfl, fun _ => rfl, rfl⟩⟩
  · obtain ⟨b, o, rfl, hcell⟩ := hel h0
    have hcells : ∀ (j : Nat) x, xs[j]? = some x → w.cell? ⟨b, o + j, none⟩ = some (.string x) := by
      intro j x hx
      obtain ⟨es, e1, e2⟩ := hcell j x hx
      cases e1
      have := (e2 0 _ rfl).1
      simpa [Kd.sz] using this
    have hbk : b < w.heap.size := by
      have := hcells 0 xs[0] (List.getElem?_eq_getElem (by omega))
      exact World.block_lt_of_cell? _ _ this
    refine (Go.Proofs.Tryd.strings_Join b o c xs sep w hcells hbk hn hlc hj).mono ?_
    rintro e w' ⟨rfl, hbl⟩
    exact ⟨[_], rfl, hbl, fun M' => ⟨[_], rfl, fun _ => rfl, rfl⟩⟩

def ct_strings_Repeat : Ct := ⟨[PK.ro Kd.str, PK.ro (Kd.int IntKind.i64)], false, [(false, [RC.ro Kd.str])], S.strings_Repeat⟩
theorem v_strings_Repeat : Valid Go.Proofs.Tryd.prog gl 128 ct_strings_Repeat := by
  refine told_flat (enters_of Go.Proofs.Tryd.func128 (by kernel_rfl) (by kernel_rfl)) (fun _ _ _ _ _ _ => trivial) (fun w M0 W0 us x γ hl hW ha r hr => ?_)
  obtain ⟨s, c, q⟩ := x
  obtain ⟨u1, _, rfl, ⟨c1, h1, h1'⟩, u2, _, rfl, ⟨c2, h2, h2'⟩, rfl⟩ := ha
  cases h1'; cases h2'; subst h1; subst h2
  unfold S.strings_Repeat at hr
  split at hr
  case isFalse => cases hr
  rename_i hc
  obtain ⟨g0, g1, g2⟩ := hc
  dsimp only at g0 g1 g2 hr
  cases hr
  obtain ⟨n, rfl⟩ : ∃ n : Nat, c = (n : Int) := ⟨c.toNat, (Int.toNat_of_nonneg g0).symm⟩
  have hm : s.size * n ≤ 1000000 * 1000000 := Nat.mul_le_mul g2 (by omega)
  refine (Go.Proofs.Tryd.strings_Repeat s n w (by omega) (by omega)).mono ?_
  rintro e w' ⟨rfl, hb⟩
  exact ⟨[_], rfl, hb, fun M' => ⟨[_], rfl, fun _ => rfl, rfl⟩⟩

def ct_slices_Reverse__string_string : Ct := ⟨[PK.mu Kd.str], true, [], S.slices_Reverse__string_string⟩
theorem v_slices_Reverse__string_string : Valid Go.Proofs.Tryd.prog gl 129 ct_slices_Reverse__string_string := by
  refine Valid.less (ps := [PK.mu Kd.str]) (tup := true) (rs := []) (g := P.slices_Reverse__string_string) (fun k => valid (fx := ⟨⟨Go.Proofs.Tryd.prog, td, [], [], []⟩, k, [(1, [(2, Sp.dat false (Kd.int IntKind.i64)), (3, Sp.dat false (Kd.int IntKind.i64)), (0, Sp.own (0) false Kd.str)])]⟩) (fn := Go.Proofs.Tryd.f129) (c := Go.Proofs.Tryd.f129.body.getD .skip) mixed tdOk (ctsNil _ _ _ _ _) Go.Proofs.Tryd.func129 (by kernel_rfl) (by kernel_rfl) (fun x => ?_)) S.slices_Reverse__string_string_ok
  kernel_rfl
def ct_i_nat_text : Ct := ⟨[PK.bo (Kd.sl (Kd.int IntKind.u32))], false, [(false, [RC.ro Kd.str])], S.i_nat_text⟩
theorem v_i_nat_text (hP : InP gl) : Valid Go.Proofs.Tryd.prog gl 99 ct_i_nat_text := by
  refine Valid.less (ps := [PK.bo (Kd.sl (Kd.int IntKind.u32))]) (tup := false) (rs := [(false, [RC.ro Kd.str])]) (g := P.i_nat_text) (fun k => valid (fx := ⟨⟨Go.Proofs.Tryd.prog, td, [(127, ct_strconv_FormatUint), (55, ct_strings_Join), (128, ct_strings_Repeat), (129, ct_slices_Reverse__string_string), (101, ct_i_nat_divSmall)], [], []⟩, k, [(4, [(0, Sp.dat true (Kd.sl (Kd.int IntKind.u32))), (3, Sp.own (80) true Kd.str)])]⟩) (fn := Go.Proofs.Tryd.f99) (c := Go.Proofs.Tryd.f99.body.getD .skip) mixed tdOk (ctsCons (v_strconv_FormatUint hP) (ctsCons v_strings_Join (ctsCons v_strings_Repeat (ctsCons v_slices_Reverse__string_string (ctsCons v_i_nat_divSmall (ctsNil _ _ _ _ _)))))) Go.Proofs.Tryd.func99 (by kernel_rfl) (by kernel_rfl) (fun x => ?_)) S.i_nat_text_ok
  kernel_rfl
def ct_i_rat_text : Ct := ⟨[PK.bo (Kd.st (Kd.pair Kd.bool (Kd.pair (Kd.sl (Kd.int IntKind.u32)) (Kd.sl (Kd.int IntKind.u32)))))], true, [(false, [RC.ro Kd.str]), (false, [RC.ro Kd.bool])], S.i_rat_text⟩
theorem v_i_rat_text (hP : InP gl) : Valid Go.Proofs.Tryd.prog gl 67 ct_i_rat_text := by
  refine Valid.less (ps := [PK.bo (Kd.st (Kd.pair Kd.bool (Kd.pair (Kd.sl (Kd.int IntKind.u32)) (Kd.sl (Kd.int IntKind.u32)))))]) (tup := true) (rs := [(false, [RC.ro Kd.str]), (false, [RC.ro Kd.bool])]) (g := P.i_rat_text) (fun k => valid (fx := ⟨⟨Go.Proofs.Tryd.prog, td, [(99, ct_i_nat_text)], [], []⟩, k, []⟩) (fn := Go.Proofs.Tryd.f67) (c := Go.Proofs.Tryd.f67.body.getD .skip) mixed tdOk (ctsCons (v_i_nat_text hP) (ctsNil _ _ _ _ _)) Go.Proofs.Tryd.func67 (by kernel_rfl) (by kernel_rfl) (fun x => ?_)) S.i_rat_text_ok
  kernel_rfl
def ct_i_told : Ct := ⟨[PK.bo (Kd.st (Kd.pair Kd.bool (Kd.pair (Kd.sl (Kd.int IntKind.u32)) (Kd.sl (Kd.int IntKind.u32)))))], true, [(false, [RC.ro Kd.str]), (false, [RC.ro Kd.bool])], S.i_told⟩
theorem v_i_told (hP : InP gl) : Valid Go.Proofs.Tryd.prog gl 43 ct_i_told := by
  refine Valid.less (ps := [PK.bo (Kd.st (Kd.pair Kd.bool (Kd.pair (Kd.sl (Kd.int IntKind.u32)) (Kd.sl (Kd.int IntKind.u32)))))]) (tup := true) (rs := [(false, [RC.ro Kd.str]), (false, [RC.ro Kd.bool])]) (g := P.i_told) (fun k => valid (fx := ⟨⟨Go.Proofs.Tryd.prog, td, [(67, ct_i_rat_text)], [], []⟩, k, []⟩) (fn := Go.Proofs.Tryd.f43) (c := Go.Proofs.Tryd.f43.body.getD .skip) mixed tdOk (ctsCons (v_i_rat_text hP) (ctsNil _ _ _ _ _)) Go.Proofs.Tryd.func43 (by kernel_rfl) (by kernel_rfl) (fun x => ?_)) S.i_told_ok
  kernel_rfl
def ct_i_MakeFraction : Ct := ⟨[PK.ro (Kd.int IntKind.i64), PK.ro (Kd.int IntKind.i64)], true, [(false, [RC.ro Kd.str]), (false, [RC.ro Kd.bool])], S.i_MakeFraction⟩
theorem v_i_MakeFraction (hP : InP gl) : Valid Go.Proofs.Tryd.prog gl 24 ct_i_MakeFraction := by
  refine Valid.less (ps := [PK.ro (Kd.int IntKind.i64), PK.ro (Kd.int IntKind.i64)]) (tup := true) (rs := [(false, [RC.ro Kd.str]), (false, [RC.ro Kd.bool])]) (g := P.i_MakeFraction) (fun k => valid (fx := ⟨⟨Go.Proofs.Tryd.prog, td, [(46, ct_i_magnitude), (45, ct_i_natOf), (44, ct_i_lowest), (43, ct_i_told)], [], []⟩, k, []⟩) (fn := Go.Proofs.Tryd.f24) (c := Go.Proofs.Tryd.f24.body.getD .skip) mixed tdOk (ctsCons v_i_magnitude (ctsCons v_i_natOf (ctsCons v_i_lowest (ctsCons (v_i_told hP) (ctsNil _ _ _ _ _))))) Go.Proofs.Tryd.func24 (by kernel_rfl) (by kernel_rfl) (fun x => ?_)) S.i_MakeFraction_ok
  kernel_rfl
def ct_s_l01Cmp : Ct := ⟨[PK.bo (Kd.sl (Kd.int IntKind.i64)), PK.bo (Kd.sl (Kd.int IntKind.i64))], false, [(false, [RC.ro (Kd.int IntKind.i64)])], S.s_l01Cmp⟩
theorem v_s_l01Cmp : Valid Go.Proofs.Tryd.prog gl 63 ct_s_l01Cmp := by
  refine Valid.less (ps := [PK.bo (Kd.sl (Kd.int IntKind.i64)), PK.bo (Kd.sl (Kd.int IntKind.i64))]) (tup := false) (rs := [(false, [RC.ro (Kd.int IntKind.i64)])]) (g := P.s_l01Cmp) (fun k => valid (fx := ⟨⟨Go.Proofs.Tryd.prog, td, [], [], []⟩, k, [(6, [(5, Sp.dat false (Kd.int IntKind.i64)), (0, Sp.dat true (Kd.sl (Kd.int IntKind.i64))),   (1, Sp.dat true (Kd.sl (Kd.int IntKind.i64)))])]⟩) (fn := Go.Proofs.Tryd.f63) (c := Go.Proofs.Tryd.f63.body.getD .skip) mixed tdOk (ctsNil _ _ _ _ _) Go.Proofs.Tryd.func63 (by kernel_rfl) (by kernel_rfl) (fun x => ?_)) S.s_l01Cmp_ok
  kernel_rfl
def ct_s_l01Trim : Ct := ⟨[PK.ro (Kd.sl (Kd.int IntKind.i64))], false, [(false, [RC.ro (Kd.sl (Kd.int IntKind.i64))])], S.s_l01Trim⟩
theorem v_s_l01Trim : Valid Go.Proofs.Tryd.prog gl 98 ct_s_l01Trim := by
  refine Valid.less (ps := [PK.ro (Kd.sl (Kd.int IntKind.i64))]) (tup := false) (rs := [(false, [RC.ro (Kd.sl (Kd.int IntKind.i64))])]) (g := P.s_l01Trim) (fun k => valid (fx := ⟨⟨Go.Proofs.Tryd.prog, td, [], [], []⟩, k, [(1, [(0, Sp.dat false (Kd.sl (Kd.int IntKind.i64)))])]⟩) (fn := Go.Proofs.Tryd.f98) (c := Go.Proofs.Tryd.f98.body.getD .skip) mixed tdOk (ctsNil _ _ _ _ _) Go.Proofs.Tryd.func98 (by kernel_rfl) (by kernel_rfl) (fun x => ?_)) S.s_l01Trim_ok
  kernel_rfl
def ct_s_l01Nat : Ct := ⟨[PK.ro (Kd.int IntKind.i64)], false, [(false, [RC.ro (Kd.sl (Kd.int IntKind.i64))])], S.s_l01Nat⟩
theorem v_s_l01Nat : Valid Go.Proofs.Tryd.prog gl 65 ct_s_l01Nat := by
  refine Valid.less (ps := [PK.ro (Kd.int IntKind.i64)]) (tup := false) (rs := [(false, [RC.ro (Kd.sl (Kd.int IntKind.i64))])]) (g := P.s_l01Nat) (fun k => valid (fx := ⟨⟨Go.Proofs.Tryd.prog, td, [], [], []⟩, k, [(2, [(0, Sp.dat false (Kd.int IntKind.i64)), (3, Sp.own (32) true (Kd.int IntKind.i64))])]⟩) (fn := Go.Proofs.Tryd.f65) (c := Go.Proofs.Tryd.f65.body.getD .skip) mixed tdOk (ctsNil _ _ _ _ _) Go.Proofs.Tryd.func65 (by kernel_rfl) (by kernel_rfl) (fun x => ?_)) S.s_l01Nat_ok
  kernel_rfl
def ct_s_l01Digit : Ct := ⟨[PK.bo (Kd.sl (Kd.int IntKind.i64)), PK.ro (Kd.int IntKind.i64)], false, [(false, [RC.ro (Kd.int IntKind.i64)])], S.s_l01Digit⟩
theorem v_s_l01Digit : Valid Go.Proofs.Tryd.prog gl 126 ct_s_l01Digit := by
  refine Valid.less (ps := [PK.bo (Kd.sl (Kd.int IntKind.i64)), PK.ro (Kd.int IntKind.i64)]) (tup := false) (rs := [(false, [RC.ro (Kd.int IntKind.i64)])]) (g := P.s_l01Digit) (fun k => valid (fx := ⟨⟨Go.Proofs.Tryd.prog, td, [], [], []⟩, k, []⟩) (fn := Go.Proofs.Tryd.f126) (c := Go.Proofs.Tryd.f126.body.getD .skip) mixed tdOk (ctsNil _ _ _ _ _) Go.Proofs.Tryd.func126 (by kernel_rfl) (by kernel_rfl) (fun x => ?_)) S.s_l01Digit_ok
  kernel_rfl
def ct_s_l01Small : Ct := ⟨[PK.bo (Kd.sl (Kd.int IntKind.i64))], true, [(false, [RC.ro (Kd.int IntKind.i64)]), (false, [RC.ro Kd.bool])], S.s_l01Small⟩
theorem v_s_l01Small : Valid Go.Proofs.Tryd.prog gl 93 ct_s_l01Small := by
  refine Valid.less (ps := [PK.bo (Kd.sl (Kd.int IntKind.i64))]) (tup := true) (rs := [(false, [RC.ro (Kd.int IntKind.i64)]), (false, [RC.ro Kd.bool])]) (g := P.s_l01Small) (fun k => valid (fx := ⟨⟨Go.Proofs.Tryd.prog, td, [(126, ct_s_l01Digit)], [], []⟩, k, []⟩) (fn := Go.Proofs.Tryd.f93) (c := Go.Proofs.Tryd.f93.body.getD .skip) mixed tdOk (ctsCons v_s_l01Digit (ctsNil _ _ _ _ _)) Go.Proofs.Tryd.func93 (by kernel_rfl) (by kernel_rfl) (fun x => ?_)) S.s_l01Small_ok
  kernel_rfl
def ct_s_l01ShortMul : Ct := ⟨[PK.bo (Kd.sl (Kd.int IntKind.i64)), PK.ro (Kd.int IntKind.i64)], false, [(false, [RC.own (Kd.int IntKind.i64)])], S.s_l01ShortMul⟩
theorem v_s_l01ShortMul : Valid Go.Proofs.Tryd.prog gl 95 ct_s_l01ShortMul := by
  refine Valid.less (ps := [PK.bo (Kd.sl (Kd.int IntKind.i64)), PK.ro (Kd.int IntKind.i64)]) (tup := false) (rs := [(false, [RC.own (Kd.int IntKind.i64)])]) (g := P.s_l01ShortMul) (fun k => valid (fx := ⟨⟨Go.Proofs.Tryd.prog, td, [], [], []⟩, k, [(4, [(16, Sp.dat false (Kd.int IntKind.i64)), (15, Sp.dat false (Kd.int IntKind.i64)), (14, Sp.dat true (Kd.sl (Kd.int IntKind.i64))),   (1, Sp.dat false (Kd.int IntKind.i64)), (6, Sp.dat false (Kd.int IntKind.i64)), (5, Sp.own (104) true (Kd.int IntKind.i64))])]⟩) (fn := Go.Proofs.Tryd.f95) (c := Go.Proofs.Tryd.f95.body.getD .skip) mixed tdOk (ctsNil _ _ _ _ _) Go.Proofs.Tryd.func95 (by kernel_rfl) (by kernel_rfl) (fun x => ?_)) S.s_l01ShortMul_ok
  kernel_rfl
def ct_s_l01ShortDiv : Ct := ⟨[PK.bo (Kd.sl (Kd.int IntKind.i64)), PK.ro (Kd.int IntKind.i64)], true, [(false, [RC.ro (Kd.sl (Kd.int IntKind.i64))]), (false, [RC.ro (Kd.int IntKind.i64)])], S.s_l01ShortDiv⟩
theorem v_s_l01ShortDiv : Valid Go.Proofs.Tryd.prog gl 94 ct_s_l01ShortDiv := by
  refine Valid.less (ps := [PK.bo (Kd.sl (Kd.int IntKind.i64)), PK.ro (Kd.int IntKind.i64)]) (tup := true) (rs := [(false, [RC.ro (Kd.sl (Kd.int IntKind.i64))]), (false, [RC.ro (Kd.int IntKind.i64)])]) (g := P.s_l01ShortDiv) (fun k => valid (fx := ⟨⟨Go.Proofs.Tryd.prog, td, [(98, ct_s_l01Trim)], [], []⟩, k, [(4, [(8, Sp.dat false (Kd.int IntKind.i64)), (7, Sp.dat false (Kd.int IntKind.i64)), (0, Sp.dat true (Kd.sl (Kd.int IntKind.i64))),   (6, Sp.own (96) true (Kd.int IntKind.i64)), (1, Sp.dat false (Kd.int IntKind.i64))])]⟩) (fn := Go.Proofs.Tryd.f94) (c := Go.Proofs.Tryd.f94.body.getD .skip) mixed tdOk (ctsCons v_s_l01Trim (ctsNil _ _ _ _ _)) Go.Proofs.Tryd.func94 (by kernel_rfl) (by kernel_rfl) (fun x => ?_)) S.s_l01ShortDiv_ok
  kernel_rfl
def ct_s_l01TakeOff : Ct := ⟨[PK.mu (Kd.int IntKind.i64), PK.bo (Kd.sl (Kd.int IntKind.i64)), PK.ro (Kd.int IntKind.i64), PK.ro (Kd.int IntKind.i64)], false, [(false, [RC.ro Kd.bool])], S.s_l01TakeOff⟩
theorem v_s_l01TakeOff : Valid Go.Proofs.Tryd.prog gl 96 ct_s_l01TakeOff := by
  refine Valid.less (ps := [PK.mu (Kd.int IntKind.i64), PK.bo (Kd.sl (Kd.int IntKind.i64)), PK.ro (Kd.int IntKind.i64), PK.ro (Kd.int IntKind.i64)]) (tup := false) (rs := [(false, [RC.ro Kd.bool])]) (g := P.s_l01TakeOff) (fun k => valid (fx := ⟨⟨Go.Proofs.Tryd.prog, td, [], [], []⟩, k, [(3, [(15, Sp.dat false (Kd.int IntKind.i64)), (14, Sp.dat false (Kd.int IntKind.i64)), (13, Sp.dat true (Kd.sl (Kd.int IntKind.i64))),   (0, Sp.own (0) false (Kd.int IntKind.i64)), (2, Sp.dat false (Kd.int IntKind.i64)), (3, Sp.dat false (Kd.int IntKind.i64)),   (9, Sp.dat false (Kd.int IntKind.i64)), (1, Sp.dat true (Kd.sl (Kd.int IntKind.i64)))])]⟩) (fn := Go.Proofs.Tryd.f96) (c := Go.Proofs.Tryd.f96.body.getD .skip) mixed tdOk (ctsNil _ _ _ _ _) Go.Proofs.Tryd.func96 (by kernel_rfl) (by kernel_rfl) (fun x => ?_)) S.s_l01TakeOff_ok
  kernel_rfl
def ct_s_l01PutBack : Ct := ⟨[PK.mu (Kd.int IntKind.i64), PK.bo (Kd.sl (Kd.int IntKind.i64)), PK.ro (Kd.int IntKind.i64)], true, [], S.s_l01PutBack⟩
theorem v_s_l01PutBack : Valid Go.Proofs.Tryd.prog gl 97 ct_s_l01PutBack := by
  refine Valid.less (ps := [PK.mu (Kd.int IntKind.i64), PK.bo (Kd.sl (Kd.int IntKind.i64)), PK.ro (Kd.int IntKind.i64)]) (tup := true) (rs := []) (g := P.s_l01PutBack) (fun k => valid (fx := ⟨⟨Go.Proofs.Tryd.prog, td, [], [], []⟩, k, [(2, [(12, Sp.dat false (Kd.int IntKind.i64)), (11, Sp.dat false (Kd.int IntKind.i64)), (10, Sp.dat true (Kd.sl (Kd.int IntKind.i64))),   (0, Sp.own (0) false (Kd.int IntKind.i64)), (2, Sp.dat false (Kd.int IntKind.i64)), (6, Sp.dat false (Kd.int IntKind.i64)),   (1, Sp.dat true (Kd.sl (Kd.int IntKind.i64)))])]⟩) (fn := Go.Proofs.Tryd.f97) (c := Go.Proofs.Tryd.f97.body.getD .skip) mixed tdOk (ctsNil _ _ _ _ _) Go.Proofs.Tryd.func97 (by kernel_rfl) (by kernel_rfl) (fun x => ?_)) S.s_l01PutBack_ok
  kernel_rfl
def ct_s_l01NatDiv : Ct := ⟨[PK.bo (Kd.sl (Kd.int IntKind.i64)), PK.bo (Kd.sl (Kd.int IntKind.i64))], true, [(false, [RC.ro (Kd.sl (Kd.int IntKind.i64))]), (false, [RC.ro (Kd.sl (Kd.int IntKind.i64))])], S.s_l01NatDiv⟩
theorem v_s_l01NatDiv : Valid Go.Proofs.Tryd.prog gl 64 ct_s_l01NatDiv := by
  refine Valid.less (ps := [PK.bo (Kd.sl (Kd.int IntKind.i64)), PK.bo (Kd.sl (Kd.int IntKind.i64))]) (tup := true) (rs := [(false, [RC.ro (Kd.sl (Kd.int IntKind.i64))]), (false, [RC.ro (Kd.sl (Kd.int IntKind.i64))])]) (g := P.s_l01NatDiv) (fun k => valid (fx := ⟨⟨Go.Proofs.Tryd.prog, td, [(98, ct_s_l01Trim), (65, ct_s_l01Nat), (63, ct_s_l01Cmp), (93, ct_s_l01Small), (95, ct_s_l01ShortMul), (94, ct_s_l01ShortDiv), (96, ct_s_l01TakeOff), (97, ct_s_l01PutBack)], [], []⟩, k, [(21, [(19, Sp.dat false (Kd.int IntKind.i64)), (14, Sp.dat false (Kd.sl (Kd.int IntKind.i64))),   (15, Sp.dat false (Kd.int IntKind.i64)), (20, Sp.dat false (Kd.int IntKind.i64)),   (13, Sp.own (624) true (Kd.int IntKind.i64)), (17, Sp.dat false (Kd.int IntKind.i64)),   (16, Sp.own (744) true (Kd.int IntKind.i64)), (12, Sp.dat false (Kd.int IntKind.i64))]), (17, [(17, Sp.dat false (Kd.int IntKind.i64)), (13, Sp.own (624) true (Kd.int IntKind.i64)), (15, Sp.dat false (Kd.int IntKind.i64)),   (14, Sp.dat false (Kd.sl (Kd.int IntKind.i64))), (16, Sp.own (744) true (Kd.int IntKind.i64)),   (12, Sp.dat false (Kd.int IntKind.i64))])]⟩) (fn := Go.Proofs.Tryd.f64) (c := Go.Proofs.Tryd.f64.body.getD .skip) mixed tdOk (ctsCons v_s_l01Trim (ctsCons v_s_l01Nat (ctsCons v_s_l01Cmp (ctsCons v_s_l01Small (ctsCons v_s_l01ShortMul (ctsCons v_s_l01ShortDiv (ctsCons v_s_l01TakeOff (ctsCons v_s_l01PutBack (ctsNil _ _ _ _ _))))))))) Go.Proofs.Tryd.func64 (by kernel_rfl) (by kernel_rfl) (fun x => ?_)) S.s_l01NatDiv_ok
  kernel_rfl
def ct_s_l01Gcd : Ct := ⟨[PK.ro (Kd.sl (Kd.int IntKind.i64)), PK.ro (Kd.sl (Kd.int IntKind.i64))], false, [(false, [RC.ro (Kd.sl (Kd.int IntKind.i64))])], S.s_l01Gcd⟩
theorem v_s_l01Gcd : Valid Go.Proofs.Tryd.prog gl 62 ct_s_l01Gcd := by
  refine Valid.less (ps := [PK.ro (Kd.sl (Kd.int IntKind.i64)), PK.ro (Kd.sl (Kd.int IntKind.i64))]) (tup := false) (rs := [(false, [RC.ro (Kd.sl (Kd.int IntKind.i64))])]) (g := P.s_l01Gcd) (fun k => valid (fx := ⟨⟨Go.Proofs.Tryd.prog, td, [(64, ct_s_l01NatDiv)], [], []⟩, k, [(1, [(1, Sp.dat false (Kd.sl (Kd.int IntKind.i64))), (0, Sp.dat false (Kd.sl (Kd.int IntKind.i64)))])]⟩) (fn := Go.Proofs.Tryd.f62) (c := Go.Proofs.Tryd.f62.body.getD .skip) mixed tdOk (ctsCons v_s_l01NatDiv (ctsNil _ _ _ _ _)) Go.Proofs.Tryd.func62 (by kernel_rfl) (by kernel_rfl) (fun x => ?_)) S.s_l01Gcd_ok
  kernel_rfl
def ct_s_l01Make : Ct := ⟨[PK.ro Kd.bool, PK.ro (Kd.sl (Kd.int IntKind.i64)), PK.ro (Kd.sl (Kd.int IntKind.i64))], false, [(true, [RC.ro (Kd.st (Kd.pair Kd.bool (Kd.pair (Kd.sl (Kd.int IntKind.i64)) (Kd.sl (Kd.int IntKind.i64)))))])], S.s_l01Make⟩
theorem v_s_l01Make : Valid Go.Proofs.Tryd.prog gl 41 ct_s_l01Make := by
  refine Valid.less (ps := [PK.ro Kd.bool, PK.ro (Kd.sl (Kd.int IntKind.i64)), PK.ro (Kd.sl (Kd.int IntKind.i64))]) (tup := false) (rs := [(true, [RC.ro (Kd.st (Kd.pair Kd.bool (Kd.pair (Kd.sl (Kd.int IntKind.i64)) (Kd.sl (Kd.int IntKind.i64)))))])]) (g := P.s_l01Make) (fun k => valid (fx := ⟨⟨Go.Proofs.Tryd.prog, td, [(63, ct_s_l01Cmp), (64, ct_s_l01NatDiv), (62, ct_s_l01Gcd)], [], []⟩, k, []⟩) (fn := Go.Proofs.Tryd.f41) (c := Go.Proofs.Tryd.f41.body.getD .skip) mixed tdOk (ctsCons v_s_l01Cmp (ctsCons v_s_l01NatDiv (ctsCons v_s_l01Gcd (ctsNil _ _ _ _ _)))) Go.Proofs.Tryd.func41 (by kernel_rfl) (by kernel_rfl) (fun x => ?_)) S.s_l01Make_ok
  kernel_rfl
def ct_s_l00Max : Ct := ⟨[PK.ro (Kd.int IntKind.i64), PK.ro (Kd.int IntKind.i64)], false, [(false, [RC.ro (Kd.int IntKind.i64)])], S.s_l00Max⟩
theorem v_s_l00Max : Valid Go.Proofs.Tryd.prog gl 66 ct_s_l00Max := by
  refine Valid.less (ps := [PK.ro (Kd.int IntKind.i64), PK.ro (Kd.int IntKind.i64)]) (tup := false) (rs := [(false, [RC.ro (Kd.int IntKind.i64)])]) (g := P.s_l00Max) (fun k => valid (fx := ⟨⟨Go.Proofs.Tryd.prog, td, [], [], []⟩, k, []⟩) (fn := Go.Proofs.Tryd.f66) (c := Go.Proofs.Tryd.f66.body.getD .skip) mixed tdOk (ctsNil _ _ _ _ _) Go.Proofs.Tryd.func66 (by kernel_rfl) (by kernel_rfl) (fun x => ?_)) S.s_l00Max_ok
  kernel_rfl
def ct_s_l01Abs : Ct := ⟨[PK.ro (Kd.int IntKind.i64)], false, [(false, [RC.ro (Kd.sl (Kd.int IntKind.i64))])], S.s_l01Abs⟩
theorem v_s_l01Abs : Valid Go.Proofs.Tryd.prog gl 42 ct_s_l01Abs := by
  refine Valid.less (ps := [PK.ro (Kd.int IntKind.i64)]) (tup := false) (rs := [(false, [RC.ro (Kd.sl (Kd.int IntKind.i64))])]) (g := P.s_l01Abs) (fun k => valid (fx := ⟨⟨Go.Proofs.Tryd.prog, td, [(66, ct_s_l00Max), (65, ct_s_l01Nat)], [], []⟩, k, []⟩) (fn := Go.Proofs.Tryd.f42) (c := Go.Proofs.Tryd.f42.body.getD .skip) mixed tdOk (ctsCons v_s_l00Max (ctsCons v_s_l01Nat (ctsNil _ _ _ _ _))) Go.Proofs.Tryd.func42 (by kernel_rfl) (by kernel_rfl) (fun x => ?_)) S.s_l01Abs_ok
  kernel_rfl
def ct_s_l01Dec : Ct := ⟨[PK.ro (Kd.int IntKind.i64)], false, [(false, [RC.ro Kd.str])], S.s_l01Dec⟩
theorem v_s_l01Dec : Valid Go.Proofs.Tryd.prog gl 29 ct_s_l01Dec := by
  refine Valid.less (ps := [PK.ro (Kd.int IntKind.i64)]) (tup := false) (rs := [(false, [RC.ro Kd.str])]) (g := P.s_l01Dec) (fun k => valid (fx := ⟨⟨Go.Proofs.Tryd.prog, td, [], [], []⟩, k, [(3, [(3, Sp.dat false (Kd.sl (Kd.int IntKind.u8))), (4, Sp.dat false (Kd.int IntKind.i64)), (0, Sp.dat false (Kd.int IntKind.i64))])]⟩) (fn := Go.Proofs.Tryd.f29) (c := Go.Proofs.Tryd.f29.body.getD .skip) mixed tdOk (ctsNil _ _ _ _ _) Go.Proofs.Tryd.func29 (by kernel_rfl) (by kernel_rfl) (fun x => ?_)) S.s_l01Dec_ok
  kernel_rfl
def ct_s_l01NatText : Ct := ⟨[PK.bo (Kd.sl (Kd.int IntKind.i64))], false, [(false, [RC.ro Kd.str])], S.s_l01NatText⟩
theorem v_s_l01NatText : Valid Go.Proofs.Tryd.prog gl 92 ct_s_l01NatText := by
  refine Valid.less (ps := [PK.bo (Kd.sl (Kd.int IntKind.i64))]) (tup := false) (rs := [(false, [RC.ro Kd.str])]) (g := P.s_l01NatText) (fun k => valid (fx := ⟨⟨Go.Proofs.Tryd.prog, td, [(29, ct_s_l01Dec)], [], []⟩, k, [(5, [(4, Sp.dat false (Kd.int IntKind.i64)), (0, Sp.dat true (Kd.sl (Kd.int IntKind.i64))), (3, Sp.dat false Kd.str)])]⟩) (fn := Go.Proofs.Tryd.f92) (c := Go.Proofs.Tryd.f92.body.getD .skip) mixed tdOk (ctsCons v_s_l01Dec (ctsNil _ _ _ _ _)) Go.Proofs.Tryd.func92 (by kernel_rfl) (by kernel_rfl) (fun x => ?_)) S.s_l01NatText_ok
  kernel_rfl
def ct_s_l01Fits : Ct := ⟨[PK.bo (Kd.st (Kd.pair Kd.bool (Kd.pair (Kd.sl (Kd.int IntKind.i64)) (Kd.sl (Kd.int IntKind.i64)))))], false, [(false, [RC.ro Kd.bool])], S.s_l01Fits⟩
theorem v_s_l01Fits : Valid Go.Proofs.Tryd.prog gl 60 ct_s_l01Fits := by
  refine Valid.less (ps := [PK.bo (Kd.st (Kd.pair Kd.bool (Kd.pair (Kd.sl (Kd.int IntKind.i64)) (Kd.sl (Kd.int IntKind.i64)))))]) (tup := false) (rs := [(false, [RC.ro Kd.bool])]) (g := P.s_l01Fits) (fun k => valid (fx := ⟨⟨Go.Proofs.Tryd.prog, td, [(92, ct_s_l01NatText)], [], []⟩, k, []⟩) (fn := Go.Proofs.Tryd.f60) (c := Go.Proofs.Tryd.f60.body.getD .skip) mixed tdOk (ctsCons v_s_l01NatText (ctsNil _ _ _ _ _)) Go.Proofs.Tryd.func60 (by kernel_rfl) (by kernel_rfl) (fun x => ?_)) S.s_l01Fits_ok
  kernel_rfl
def ct_s_l01Show : Ct := ⟨[PK.bo (Kd.st (Kd.pair Kd.bool (Kd.pair (Kd.sl (Kd.int IntKind.i64)) (Kd.sl (Kd.int IntKind.i64)))))], false, [(false, [RC.ro Kd.str])], S.s_l01Show⟩
theorem v_s_l01Show : Valid Go.Proofs.Tryd.prog gl 61 ct_s_l01Show := by
  refine Valid.less (ps := [PK.bo (Kd.st (Kd.pair Kd.bool (Kd.pair (Kd.sl (Kd.int IntKind.i64)) (Kd.sl (Kd.int IntKind.i64)))))]) (tup := false) (rs := [(false, [RC.ro Kd.str])]) (g := P.s_l01Show) (fun k => valid (fx := ⟨⟨Go.Proofs.Tryd.prog, td, [(63, ct_s_l01Cmp), (92, ct_s_l01NatText)], [], []⟩, k, []⟩) (fn := Go.Proofs.Tryd.f61) (c := Go.Proofs.Tryd.f61.body.getD .skip) mixed tdOk (ctsCons v_s_l01Cmp (ctsCons v_s_l01NatText (ctsNil _ _ _ _ _))) Go.Proofs.Tryd.func61 (by kernel_rfl) (by kernel_rfl) (fun x => ?_)) S.s_l01Show_ok
  kernel_rfl
def ct_s_l01Give : Ct := ⟨[PK.bo (Kd.st (Kd.pair Kd.bool (Kd.pair (Kd.sl (Kd.int IntKind.i64)) (Kd.sl (Kd.int IntKind.i64)))))], true, [(false, [RC.ro Kd.str]), (false, [RC.ro Kd.bool])], S.s_l01Give⟩
theorem v_s_l01Give : Valid Go.Proofs.Tryd.prog gl 40 ct_s_l01Give := by
  refine Valid.less (ps := [PK.bo (Kd.st (Kd.pair Kd.bool (Kd.pair (Kd.sl (Kd.int IntKind.i64)) (Kd.sl (Kd.int IntKind.i64)))))]) (tup := true) (rs := [(false, [RC.ro Kd.str]), (false, [RC.ro Kd.bool])]) (g := P.s_l01Give) (fun k => valid (fx := ⟨⟨Go.Proofs.Tryd.prog, td, [(60, ct_s_l01Fits), (61, ct_s_l01Show)], [], []⟩, k, []⟩) (fn := Go.Proofs.Tryd.f40) (c := Go.Proofs.Tryd.f40.body.getD .skip) mixed tdOk (ctsCons v_s_l01Fits (ctsCons v_s_l01Show (ctsNil _ _ _ _ _))) Go.Proofs.Tryd.func40 (by kernel_rfl) (by kernel_rfl) (fun x => ?_)) S.s_l01Give_ok
  kernel_rfl
def ct_s_MakeFraction : Ct := ⟨[PK.ro (Kd.int IntKind.i64), PK.ro (Kd.int IntKind.i64)], true, [(false, [RC.ro Kd.str]), (false, [RC.ro Kd.bool])], S.s_MakeFraction⟩
theorem v_s_MakeFraction : Valid Go.Proofs.Tryd.prog gl 23 ct_s_MakeFraction := by
  refine Valid.less (ps := [PK.ro (Kd.int IntKind.i64), PK.ro (Kd.int IntKind.i64)]) (tup := true) (rs := [(false, [RC.ro Kd.str]), (false, [RC.ro Kd.bool])]) (g := P.s_MakeFraction) (fun k => valid (fx := ⟨⟨Go.Proofs.Tryd.prog, td, [(41, ct_s_l01Make), (42, ct_s_l01Abs), (40, ct_s_l01Give)], [], []⟩, k, []⟩) (fn := Go.Proofs.Tryd.f23) (c := Go.Proofs.Tryd.f23.body.getD .skip) mixed tdOk (ctsCons v_s_l01Make (ctsCons v_s_l01Abs (ctsCons v_s_l01Give (ctsNil _ _ _ _ _)))) Go.Proofs.Tryd.func23 (by kernel_rfl) (by kernel_rfl) (fun x => ?_)) S.s_MakeFraction_ok
  kernel_rfl
def ct_l_FnExactMakeFraction : Ct := ⟨[PK.ro (Kd.int IntKind.i64), PK.ro (Kd.int IntKind.i64)], false, [(false, [RC.ro Kd.bool])], S.l_FnExactMakeFraction⟩
theorem v_l_FnExactMakeFraction (hP : InP gl) : Valid Go.Proofs.Tryd.prog gl 7 ct_l_FnExactMakeFraction := by
  refine Valid.less (ps := [PK.ro (Kd.int IntKind.i64), PK.ro (Kd.int IntKind.i64)]) (tup := false) (rs := [(false, [RC.ro Kd.bool])]) (g := P.l_FnExactMakeFraction) (fun k => valid (fx := ⟨⟨Go.Proofs.Tryd.prog, td, [(24, ct_i_MakeFraction), (23, ct_s_MakeFraction)], [], []⟩, k, []⟩) (fn := Go.Proofs.Tryd.f7) (c := Go.Proofs.Tryd.f7.body.getD .skip) mixed tdOk (ctsCons (v_i_MakeFraction hP) (ctsCons v_s_MakeFraction (ctsNil _ _ _ _ _))) Go.Proofs.Tryd.func7 (by kernel_rfl) (by kernel_rfl) (fun x => ?_)) S.l_FnExactMakeFraction_ok
  kernel_rfl
end Go.Cm.LnMakeFraction
end
