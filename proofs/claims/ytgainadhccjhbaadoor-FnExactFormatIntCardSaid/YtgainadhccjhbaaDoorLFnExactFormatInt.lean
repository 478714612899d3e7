/- FnExactFormatInt: the law's walk. -/
import Derived.Test.YtgainadhccjhbaaDoorFmtW
namespace Go.Proofs.YtgainadhccjhbaaDoor
open Go.RowKit
set_option linter.unusedSimpArgs false
set_option linter.unusedVariables false
set_option linter.unusedVariables false
set_option maxHeartbeats 1000000 in
theorem walkFnExactFormatInt (n : Int) (h0 : -9223372036854775808 ≤ n) (h1 : n ≤ 9223372036854775807) (w : World) (hT : Tab10 w) :
    Calls Tryd.prog 3 #[.int .i64 n] w fun e w' => e = .returned (.bool true) ∧ Below w.heap.size w w' := by
  have cs := specFormatInt n h0 h1 w
  have CS := hide cs
  clear cs
  have ci := implFormatInt n h0 h1 w hT
  have CI := hide ci
  clear ci hT
  go_enter Tryd.func3, Tryd.ntmps3
  go_wp2_with fail
  refine (CS.out).mono ?_; rintro e w1 ⟨rfl, rfl⟩
  go_wp2_with fail
  refine (CI.out).mono ?_; rintro e w2 ⟨rfl, bel⟩
  go_wp2
  go_ret
  exact ⟨rfl, bel⟩
end Go.Proofs.YtgainadhccjhbaaDoor
