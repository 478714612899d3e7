/- The walk of FnExactIsNumber. -/
import Derived.Test.YtocfdmgojjoicaaNumW
namespace Go.Proofs.Ytocfdmgojjoicaa
open Go.RowKit
theorem walkFnExactIsNumber (n : Int) (_h : -9223372036854775808 ≤ n) (_h' : n ≤ 9223372036854775807) (w : World) :
    Calls Try.prog 4 #[.int .i64 n] w fun e w' => e = .returned (.bool true) ∧ Below w.heap.size w w' := by
  have e1 : (isNum n != isNum n) = false := by simp
  go_enter Try.func4, Try.ntmps4
  go_wp2_with (first
    | (go_at_call 9; refine (specIsNumber _ _).mono ?_; rintro e w' ⟨rfl, rfl⟩)
    | (go_at_call 10; refine (implIsNumber _ _).mono ?_; rintro e w' ⟨rfl, rfl⟩))
  go_returns
  exact ⟨rfl, by go_grown⟩
end Go.Proofs.Ytocfdmgojjoicaa
