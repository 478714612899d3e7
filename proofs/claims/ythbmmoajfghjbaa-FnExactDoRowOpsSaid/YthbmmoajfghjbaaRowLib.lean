/- What the laws' walks share. -/
import Derived.Test.YthbmmoajfghjbaaBox
import Derived.Test.YthbmmoajfghjbaaRes
import Derived.Test.YthbmmoajfghjbaaOpen
import Derived.Test.YthbmmoajfghjbaaAppS
import Derived.Test.YthbmmoajfghjbaaKeepB
namespace Go.Proofs.Ythbmmoajfghjbaa
open Go.RowKit
set_option linter.unusedSimpArgs false
set_option linter.unusedVariables false
theorem Own.sl2 {w : World} {lo : Nat} {A : Option Addr} {n c : Nat} {xs : List Int} (h : Own w lo (.slice A n c) xs) : Sl w A n c xs := by
  obtain ⟨B, d, e, hs⟩ := Own.full h
  injection e with e1 e2 e3
  subst e1; subst e2; subst e3
  exact hs
end Go.Proofs.Ythbmmoajfghjbaa
