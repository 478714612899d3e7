/- Bounds of cells and of their products. -/
import Derived.Test.YthbmmoajfghjbaaIsMatW
namespace Go.Proofs.Ythbmmoajfghjbaa
open Go.RowKit
set_option linter.unusedSimpArgs false
set_option linter.unusedVariables false

theorem num_at {xs : List Int} (h : ∀ x ∈ xs, isNum x = true) (k : Nat) : -400000000 ≤ xs.getD k 0 ∧ xs.getD k 0 ≤ 400000000 := by
  by_cases hk : k < xs.length
  · have : xs.getD k 0 = xs[k] := by simp [List.getD, hk]
    rw [this]
    exact isNum_t (h _ (List.getElem_mem hk))
  · have : xs.getD k 0 = 0 := by simp [List.getD, hk]
    rw [this]; omega
theorem mul_in {a b : Int} (ha : -400000000 ≤ a ∧ a ≤ 400000000) (hb : -400000000 ≤ b ∧ b ≤ 400000000) : -160000000000000000 ≤ a * b ∧ a * b ≤ 160000000000000000 := by
  have h1 : (a * b).natAbs ≤ 400000000 * 400000000 := by rw [Int.natAbs_mul]; exact Nat.mul_le_mul (by omega) (by omega)
  omega
end Go.Proofs.Ythbmmoajfghjbaa
