/- What the laws on row operations share. -/
import Derived.Test.YthbmmoajfghjbaaDoSw
namespace Go.Proofs.Ythbmmoajfghjbaa
open Go.RowKit
set_option linter.unusedSimpArgs false
set_option linter.unusedVariables false
theorem OpBox.alloc {w : World} {b : Nat} {k i j t : Int} (h : OpBox w b k i j t) (o : Obj) : OpBox (w.alloc o) b k i j t := h.of_block (Below.heap_alloc w o b h.lt)
theorem own_drew {w : World} {lo : Nat} {s : Value} {xs : List Int} (h : Own w lo s xs) : Own w.drew lo s xs := h
end Go.Proofs.Ythbmmoajfghjbaa
