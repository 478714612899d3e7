/- The walk of FnExactExtendedGcd. -/
import Derived.Test.YtdbklibjjgeibaaEgW
namespace Go.Proofs.Ytdbklibjjgeibaa
open Go.RowKit
set_option linter.unusedSimpArgs false
set_option linter.unusedVariables false
set_option maxHeartbeats 1000000 in
theorem walkFnExactExtendedGcd (a : Int) (_la : -9223372036854775808 ≤ a) (_ua : a ≤ 9223372036854775807) (b : Int) (_lb : -9223372036854775808 ≤ b) (_ub : b ≤ 9223372036854775807) (w : World) :
    Calls Try.prog 4 #[.int .i64 a, .int .i64 b] w fun e w' => e = .returned (.bool true) ∧ Below w.heap.size w w' := by
  have cs := fun w => specEgcd a b w
  have ci := fun w => implEgcd a b w
  unfold egV at cs ci
  generalize egRes a b = p at *
  obtain ⟨g, x, y⟩ := p
  generalize egIn a b = k at *
  have CS : Hid (∀ w, Calls Try.prog 13 #[.int .i64 a, .int .i64 b] w fun e w' => e = .returned (.tuple #[.int .i64 g, .int .i64 x, .int .i64 y, .bool k]) ∧ w = w') := cs
  have CI : Hid (∀ w, Calls Try.prog 14 #[.int .i64 a, .int .i64 b] w fun e w' => e = .returned (.tuple #[.int .i64 g, .int .i64 x, .int .i64 y, .bool k]) ∧ Below w.heap.size w w') := ci
  have e1 : (g != g) = false := by simp
  have e2 : (x != x) = false := by simp
  have e3 : (y != y) = false := by simp
  have e4 : (k != k) = false := by simp
  clear cs ci _la _ua _lb _ub
  go_enter Try.func4, Try.ntmps4
  go_wp2_with fail
  refine (CS.out _).mono ?_; rintro e w' ⟨rfl, rfl⟩
  go_wp2_with fail
  refine (CI.out _).mono ?_; rintro e w' ⟨rfl, hb⟩
  have HB := hide hb; clear hb
  go_wp2
  go_returns
  exact ⟨rfl, HB.out⟩
end Go.Proofs.Ytdbklibjjgeibaa
