/- The walk of the reference's division rounded down. -/
import Derived.Test.YtdbklibjjgeibaaNumW
namespace Go.Proofs.Ytdbklibjjgeibaa
open Go.RowKit
set_option linter.unusedSimpArgs false
set_option linter.unusedVariables false

theorem specFloor (n d : Int) (w : World) (h : -9223372036854775807 ≤ n) (h' : n ≤ 9223372036854775807) (h2 : 1 ≤ d) (h2' : d ≤ 9223372036854775807):
    Calls Try.prog 31 #[.int .i64 n, .int .i64 d] w fun e w' => e = .returned (.int .i64 (n / d)) ∧ w = w' := by
  have hd := floor_spec n d (by omega)
  have hq : -9223372036854775807 ≤ n.tdiv d ∧ n.tdiv d ≤ 9223372036854775807 := by
    have := Int.natAbs_tdiv_le_natAbs n d
    omega
  obtain ⟨hq1, hq2⟩ := hq
  have hz' : (d == 0) = false := by simp; omega
  by_cases hneg : n.tmod d < 0
  · have hq3 : -9223372036854775807 ≤ n.tdiv d - 1 := by
      by_cases e1 : d = 1
      · subst e1; simp at hneg
      · have h5 : (n.tdiv d).natAbs = n.natAbs / d.natAbs := Int.natAbs_tdiv n d
        have : n.natAbs / d.natAbs ≤ n.natAbs / 2 := Nat.div_le_div_left (by omega) (by omega)
        omega
    rw [if_pos hneg] at hd
    have HD := hide hd; clear hd
    go_enter Try.func31, Try.ntmps31
    go_wp2
    all_goals (go_ret; exact ⟨ret_int (by first | exact HD.out | (have := HD.out; omega)), rfl⟩)
  · rw [if_neg hneg] at hd
    have HD := hide hd; clear hd
    go_enter Try.func31, Try.ntmps31
    go_wp2
    all_goals (go_ret; exact ⟨ret_int (by first | exact HD.out | (have := HD.out; omega)), rfl⟩)
theorem specFloor_at (n d q : Int) (hq : Hid (n / d = q)) (w : World) (h : -9223372036854775807 ≤ n) (h' : n ≤ 9223372036854775807) (h2 : 1 ≤ d) (h2' : d ≤ 9223372036854775807):
    Calls Try.prog 31 #[.int .i64 n, .int .i64 d] w fun e w' => e = .returned (.int .i64 q) ∧ w = w' :=
  (specFloor n d w h h' h2 h2').mono fun _ _ ⟨he, hw⟩ => ⟨by rw [he, hq.out], hw⟩
end Go.Proofs.Ytdbklibjjgeibaa
