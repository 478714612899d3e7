/- The walks of the functions on one row operation. -/
import Derived.Test.YtchlaebkigmfgaaNumW
namespace Go.Proofs.Ytchlaebkigmfgaa
open Go.RowKit
set_option linter.unusedSimpArgs false
set_option linter.unusedVariables false

abbrev opv (k i j t : Int) : Value := .agg #[.int .i64 k, .int .i64 i, .int .i64 j, .int .i64 t]
theorem ret_op {k i j t t' : Int} (h : t = t') : Ending.returned (opv k i j t) = .returned (opv k i j t') := by rw [h]




end Go.Proofs.Ytchlaebkigmfgaa
