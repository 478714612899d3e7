/- The walks of a row operation in place, the program's. -/
import Derived.Test.YtjopanbccfebnaaRowW
import Derived.Test.YtjopanbccfebnaaRowOpI
import Derived.Test.YtjopanbccfebnaaOpL
import Derived.Test.YtjopanbccfebnaaRowLib
import Derived.IntWalk
import Derived.StillTailTactics
import Derived.BigRegion
import Derived.Deep.QuietTactic
import Derived.BigQuiet
namespace Go.Proofs.Ytjopanbccfebnaa
open Go.RowKit
set_option linter.unusedSimpArgs false
set_option linter.unusedVariables false

def okAt (C i j : Nat) (t : Int) (xs : List Int) (k : Nat) : Bool := isNum (xs.getD (j * C + k) 0 * t) && isNum (xs.getD (i * C + k) 0 + xs.getD (j * C + k) 0 * t)
def opOk (C i j : Nat) (t : Int) (xs : List Int) : Bool := (List.range C).all (okAt C i j t xs)
/-- What an operation in place leaves. -/
def RowPost (w : World) (g lo : Nat) (s : Value) (L : List Int) (ok : Bool) (e : Ending) (w' : World) : Prop := e = .returned (.bool ok) ∧ (ok = true → Own w' lo s L) ∧ w.grownBy w' (some g)
end Go.Proofs.Ytjopanbccfebnaa
