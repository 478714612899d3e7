/- How an argument that is a slice of numbers is opened. -/
import Derived.Test.YthbmmoajfghjbaaMem
import Derived.Test.YthbmmoajfghjbaaKeep
import Derived.ProofKit
namespace Go.Proofs.Ythbmmoajfghjbaa
set_option linter.unusedSimpArgs false
set_option linter.unusedVariables false
open Go.RowKit Go.ChangeShapes Go.WideShapes

/-- What the walk is told of a slice of numbers that came in. -/
def SlArg (w : World) (A : Option Addr) (n cap : Nat) (xs : List Int) : Prop := n = xs.length ∧ xs.length ≤ maxLen ∧ SlI w A xs

theorem open_SlI {H : Type} {enc : TypeId × Value → H} {P : Program} {w : World} {base : Nat} {spare : Nat → Bool} {held : Bool} {fuel : Nat} {t e : TypeId} {v : Value} {y : DataW H × List MemPlace}
    (hc : P.cellsOf e = 1) (ht : P.underlying t = some (.slice e)) (he : P.underlying e = some (.int .i64)) (h : DataW.trod enc P w base spare held fuel t [v] = some y) :
    ∃ A n cap xs, v = .slice A n cap ∧ SlArg w A n cap xs := by
  rcases open_ints ht he hc h with ⟨hcs, _⟩ | ⟨a, len, cap, zs, hcs, _, hl, hm, hz, _, hcell, _⟩
  · simp only [List.cons.injEq, and_true] at hcs
    exact ⟨none, 0, 0, [], hcs, rfl, by simp, SlI.nil⟩
  · simp only [List.cons.injEq, and_true] at hcs
    have hzl : len ≤ zs.length := by rw [hz]; split <;> omega
    refine ⟨some a, len, cap, zs.take len, hcs, by simp; omega, by simp; omega, fun hp => ?_⟩
    simp only [List.length_take] at hp
    have h0 := hcell 0 (by omega)
    obtain ⟨b, off, spot⟩ := a
    have hspot : spot = none := by simpa [Addr.add] using World.cell?_spot h0
    subst hspot
    refine ⟨b, off, rfl, fun i hi => ?_⟩
    simp only [List.length_take] at hi
    have h1 := hcell i (by omega)
    have : (zs.take len).getD i 0 = zs.getD i 0 := by simp [List.getD, List.getElem?_take, show i < len from by omega]
    rw [this, ← h1]
    congr 1
    unfold Addr.add
    split <;> simp_all
end Go.Proofs.Ythbmmoajfghjbaa
