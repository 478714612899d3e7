/- The walk of FnExactDivideFloor. -/
import Derived.Test.YtocfdmgojjoicaaDivW
namespace Go.Proofs.Ytocfdmgojjoicaa
open Go.RowKit
theorem walkFnExactDivideFloor (n : Int) (_h : -9223372036854775808 ≤ n) (_h' : n ≤ 9223372036854775807) (d : Int) (_g : -9223372036854775808 ≤ d) (_g' : d ≤ 9223372036854775807) (w : World) :
    Calls Try.prog 8 #[.int .i64 n, .int .i64 d] w fun e w' => e = .returned (.bool true) ∧ Below w.heap.size w w' := by
  have e1 : (divQ n d != divQ n d) = false := by simp
  have e2 : (divR n d != divR n d) = false := by simp
  have e3 : (divOk n d != divOk n d) = false := by simp
  go_enter Try.func8, Try.ntmps8
  go_wp2_with (first
    | (go_at_call 19; refine (specDivideFloor _ _ _).mono ?_; rintro e w' ⟨rfl, n1, rfl⟩)
    | (go_at_call 20; refine (implDivideFloor _ _ _).mono ?_; rintro e w' ⟨rfl, n2, rfl⟩))
  go_returns
  exact ⟨rfl, (Below.refl _ _).trans ⟨rfl, rfl, rfl, Nat.le_refl _, fun _ _ => rfl⟩⟩
end Go.Proofs.Ytocfdmgojjoicaa
