/- The walks of the functions on whole numbers. -/
import Derived.Test.YtchlaebkigmfgaaRows
import Derived.Test.YtchlaebkigmfgaaNum
import Derived.WalkKit
import Derived.WalkSpells
import Derived.Handy
import Derived.Deep.QuietTactic
import Derived.BigQuiet
namespace Go.Proofs.Ytchlaebkigmfgaa
open Go.RowKit
set_option linter.unusedSimpArgs false
set_option linter.unusedVariables false

theorem implIsNumber (n : Int) (w : World) :
    Calls Try.prog 54 #[.int .i64 n] w fun e w' => e = .returned (.bool (isNum n)) ∧ w = w' := by
  go_enter Try.func54, Try.ntmps54
  go_wp2
  all_goals (go_ret; exact ⟨by simp [isNum] <;> omega, rfl⟩)

theorem specIn (x lo hi : Int) (w : World) :
    Calls Try.prog 76 #[.int .i64 x, .int .i64 lo, .int .i64 hi] w fun e w' => e = .returned (.bool (decide (lo ≤ x ∧ x ≤ hi))) ∧ w = w' := by
  go_enter Try.func76, Try.ntmps76
  go_wp2
  all_goals (go_ret; exact ⟨by simp [*] <;> omega, rfl⟩)

theorem specIsNumber (n : Int) (w : World) :
    Calls Try.prog 85 #[.int .i64 n] w fun e w' => e = .returned (.bool (isNum n)) ∧ w = w' := by
  go_enter Try.func85, Try.ntmps85
  go_wp2_with (go_at_call 76; refine (specIn _ _ _ _).mono ?_; rintro e w' ⟨rfl, rfl⟩)
  all_goals (go_ret; exact ⟨by simp [isNum] <;> omega, rfl⟩)

theorem absInt (n : Int) (w : World) (h : -9223372036854775808 < n) (h' : n ≤ 9223372036854775807):
    Calls Try.prog 47 #[.int .i64 n] w fun e w' => e = .returned (.int .i64 (n.natAbs : Int)) ∧ w = w' := by
  go_enter Try.func47, Try.ntmps47
  go_wp2
  all_goals (go_ret; exact ⟨ret_int (by omega), rfl⟩)

theorem specAbs (n : Int) (w : World) (h : -9223372036854775808 < n) (h' : n ≤ 9223372036854775807):
    Calls Try.prog 46 #[.int .i64 n] w fun e w' => e = .returned (.int .i64 (n.natAbs : Int)) ∧ w = w' := by
  go_enter Try.func46, Try.ntmps46
  go_wp2
  all_goals (go_ret; exact ⟨ret_int (by omega), rfl⟩)

theorem absInt_at (n x : Int) (hx : Hid ((n.natAbs : Int) = x)) (w : World) (h : -9223372036854775808 < n) (h' : n ≤ 9223372036854775807):
    Calls Try.prog 47 #[.int .i64 n] w fun e w' => e = .returned (.int .i64 x) ∧ w = w' :=
  (absInt n w h h').mono fun _ _ ⟨he, hw⟩ => ⟨by rw [he, hx.out], hw⟩
theorem specAbs_at (n x : Int) (hx : Hid ((n.natAbs : Int) = x)) (w : World) (h : -9223372036854775808 < n) (h' : n ≤ 9223372036854775807):
    Calls Try.prog 46 #[.int .i64 n] w fun e w' => e = .returned (.int .i64 x) ∧ w = w' :=
  (specAbs n w h h').mono fun _ _ ⟨he, hw⟩ => ⟨by rw [he, hx.out], hw⟩


/-- The greatest common divisor as both define it. -/
def gcdOf (a b : Int) : Int := if isNum a = true ∧ isNum b = true then (Int.gcd a b : Int) else 0


end Go.Proofs.Ytchlaebkigmfgaa
