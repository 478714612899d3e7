/- The walks of the functions on whole numbers. -/
import Derived.Test.YthbmmoajfghjbaaRows
import Derived.Test.YthbmmoajfghjbaaNum
import Derived.WalkKit
import Derived.WalkSpells
import Derived.Handy
import Derived.Deep.QuietTactic
import Derived.BigQuiet
namespace Go.Proofs.Ythbmmoajfghjbaa
open Go.RowKit
set_option linter.unusedSimpArgs false
set_option linter.unusedVariables false

theorem implIsNumber (n : Int) (w : World) :
    Calls Try.prog 50 #[.int .i64 n] w fun e w' => e = .returned (.bool (isNum n)) ∧ w = w' := by
  go_enter Try.func50, Try.ntmps50
  go_wp2
  all_goals (go_ret; exact ⟨by simp [isNum] <;> omega, rfl⟩)

theorem specIn (x lo hi : Int) (w : World) :
    Calls Try.prog 45 #[.int .i64 x, .int .i64 lo, .int .i64 hi] w fun e w' => e = .returned (.bool (decide (lo ≤ x ∧ x ≤ hi))) ∧ w = w' := by
  go_enter Try.func45, Try.ntmps45
  go_wp2
  all_goals (go_ret; exact ⟨by simp [*] <;> omega, rfl⟩)

theorem specIsNumber (n : Int) (w : World) :
    Calls Try.prog 46 #[.int .i64 n] w fun e w' => e = .returned (.bool (isNum n)) ∧ w = w' := by
  go_enter Try.func46, Try.ntmps46
  go_wp2_with (go_at_call 45; refine (specIn _ _ _ _).mono ?_; rintro e w' ⟨rfl, rfl⟩)
  all_goals (go_ret; exact ⟨by simp [isNum] <;> omega, rfl⟩)





/-- The greatest common divisor as both define it. -/
def gcdOf (a b : Int) : Int := if isNum a = true ∧ isNum b = true then (Int.gcd a b : Int) else 0


end Go.Proofs.Ythbmmoajfghjbaa
