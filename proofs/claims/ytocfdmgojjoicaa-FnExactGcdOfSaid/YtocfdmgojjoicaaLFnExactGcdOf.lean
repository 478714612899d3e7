/- The walk of FnExactGcdOf. -/
import Derived.Test.YtocfdmgojjoicaaNumW
namespace Go.Proofs.Ytocfdmgojjoicaa
open Go.RowKit
theorem walkFnExactGcdOf (a : Int) (_h : -9223372036854775808 ≤ a) (_h' : a ≤ 9223372036854775807) (b : Int) (_g : -9223372036854775808 ≤ b) (_g' : b ≤ 9223372036854775807) (w : World) :
    Calls Try.prog 5 #[.int .i64 a, .int .i64 b] w fun e w' => e = .returned (.bool true) ∧ Below w.heap.size w w' := by
  have e1 : (gcdOf a b != gcdOf a b) = false := by simp
  go_enter Try.func5, Try.ntmps5
  go_wp2_with (first
    | (go_at_call 11; refine (specGcdOf _ _ _).mono ?_; rintro e w' ⟨rfl, n1, rfl⟩)
    | (go_at_call 12; refine (implGcdOf _ _ _).mono ?_; rintro e w' ⟨rfl, n2, rfl⟩))
  go_returns
  exact ⟨rfl, (Below.refl _ _).trans ⟨rfl, rfl, rfl, Nat.le_refl _, fun _ _ => rfl⟩⟩
end Go.Proofs.Ytocfdmgojjoicaa
