/- A row operation in place, whatever its kind. -/
import Derived.Test.YtjopanbccfebnaaOpW
namespace Go.Proofs.Ytjopanbccfebnaa
open Go.RowKit
set_option linter.unusedSimpArgs false
set_option linter.unusedVariables false

def RowPostA (w : World) (lo : Nat) (s : Value) (L : List Int) (ok : Bool) (e : Ending) (w' : World) : Prop := e = .returned (.bool ok) ∧ (ok = true → Own w' lo s L) ∧ w.grownBy w' s.ownBlock
def opGo (kind : Nat) (C i j : Nat) (t : Int) (xs : List Int) : Bool := decide (kind ≠ 2) || opOk C i j t xs
theorem isRowOp_t {k i j R : Nat} {t : Int} (h : isRowOp k i j t R = true) : i < R ∧ j < R ∧ (-400000000 ≤ t ∧ t ≤ 400000000) ∧ ((k = 0 ∧ i ≠ j ∧ t = 0) ∨ (k = 1 ∧ i = j ∧ t = 0) ∨ (k = 2 ∧ i ≠ j)) := by
  simp only [isRowOp, Bool.and_eq_true, decide_eq_true_eq, Bool.or_eq_true] at h
  obtain ⟨⟨⟨_, _, _, h1, _, h2⟩, h3⟩, h4⟩ := h
  have := isNum_t h3
  omega
theorem opL_nil {R kind i j : Nat} {t : Int} {xs : List Int} : opL R 0 kind i j t xs = [] := by
  have : (opL R 0 kind i j t xs).length = 0 := by rw [opL, ofM_length]; rfl
  exact List.eq_nil_of_length_eq_zero this
end Go.Proofs.Ytjopanbccfebnaa
