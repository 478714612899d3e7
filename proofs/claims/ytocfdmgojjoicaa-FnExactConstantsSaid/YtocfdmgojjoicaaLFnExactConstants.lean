/- The walk of FnExactConstants. -/
import Derived.Test.YtocfdmgojjoicaaNumW
namespace Go.Proofs.Ytocfdmgojjoicaa
open Go.RowKit
set_option maxHeartbeats 1000000 in
theorem walkFnExactConstants (w : World) :
    Calls Try.prog 3 #[] w fun e w' => e = .returned (.bool true) ∧ Below w.heap.size w w' := by
  go_enter Try.func3, Try.ntmps3
  go_wp2
  go_returns
  exact ⟨rfl, by go_grown⟩
end Go.Proofs.Ytocfdmgojjoicaa
