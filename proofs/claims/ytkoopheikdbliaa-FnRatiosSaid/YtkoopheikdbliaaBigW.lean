/- The walks of the laws' small helpers. -/
import Derived.Test.YtkoopheikdbliaaCur
namespace Go.Proofs.Ytkoopheikdbliaa
open Go.RowKit
set_option linter.unusedSimpArgs false
set_option linter.unusedVariables false
theorem lawBig_no (A : Option Addr) (n cap : Nat) (w : World) (hn : n ≤ 1048576) :
    Calls Try.prog 17 #[.slice A n cap] w fun e w' => e = .returned (.bool false) ∧ w = w' := by
  have d1 : decide ((1048576 : Int) < (n : Int)) = false := decide_eq_false (by omega)
  go_enter Try.func17, Try.ntmps17
  go_wp2
  go_returns
  exact ⟨rfl, rfl⟩
theorem lawBig_yes (A : Option Addr) (n cap : Nat) (w : World) (hn : 1048576 < n) (hm : n ≤ 9223372036854775807) :
    Calls Try.prog 17 #[.slice A n cap] w fun e w' => e = .returned (.bool true) ∧ w = w' := by
  have d1 : decide ((1048576 : Int) < (n : Int)) = true := decide_eq_true (by omega)
  go_enter Try.func17, Try.ntmps17
  go_wp2
  go_returns
  exact ⟨rfl, rfl⟩
theorem lawAbs (n : Int) (w : World) (h : -9223372036854775808 < n) (h' : n ≤ 9223372036854775807) :
    Calls Try.prog 26 #[.int .i64 n] w fun e w' => e = .returned (.int .i64 (n.natAbs : Int)) ∧ w = w' := by
  go_enter Try.func26, Try.ntmps26
  go_wp2
  all_goals (go_ret; exact ⟨ret_int (by omega), rfl⟩)
theorem lawAbs_at (n x : Int) (hx : Hid ((n.natAbs : Int) = x)) (w : World) (h : -9223372036854775808 < n) (h' : n ≤ 9223372036854775807) :
    Calls Try.prog 26 #[.int .i64 n] w fun e w' => e = .returned (.int .i64 x) ∧ w = w' :=
  (lawAbs n w h h').mono fun _ _ ⟨he, hw⟩ => ⟨by rw [he, hx.out], hw⟩
end Go.Proofs.Ytkoopheikdbliaa
