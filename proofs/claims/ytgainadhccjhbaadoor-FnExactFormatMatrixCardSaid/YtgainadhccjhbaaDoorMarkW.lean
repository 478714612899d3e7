/- The walks of the laws' marks: what is written into a result, and found there again. -/
import Derived.Test.YtgainadhccjhbaaDoorMatW
namespace Go.Proofs.YtgainadhccjhbaaDoor
open Go.RowKit
set_option linter.unusedSimpArgs false
set_option linter.unusedVariables false

/-- k, k + 1, .. -/
def marks (k : Int) (n : Nat) : List Int := (List.range n).map fun (i : Nat) => k + (i : Int)
theorem marks_length (k : Int) (n : Nat) : (marks k n).length = n := by simp [marks]
theorem marks_getD (k : Int) (n i : Nat) (h : i < n) : (marks k n).getD i 0 = k + i := by simp [marks, List.getD, h]
theorem mark_step (xs : List Int) (k : Int) (i : Nat) (h : i < xs.length) : (iv (marks k i ++ xs.drop i)).set i (.int .i64 (k + i)) = iv (marks k (i + 1) ++ xs.drop (i + 1)) := by
  apply List.ext_getElem?
  intro j
  simp only [iv, marks, List.getElem?_set, List.getElem?_map, List.length_map, List.length_append, List.length_range, List.length_drop, List.getElem?_append, List.getElem?_drop, List.getElem?_range]
  by_cases hj : i = j
  · subst hj
    simp [h]
    omega
  · rw [if_neg hj]
    by_cases h1 : j < i
    · simp [h1, show j < i + 1 from by omega]
    · have h2 : ¬ j < i + 1 := by omega
      simp only [h1, h2, if_false]
      rw [show i + (j - i) = i + 1 + (j - (i + 1)) from by omega]


end Go.Proofs.YtgainadhccjhbaaDoor
