/- Matrices and their cells: plain laws. -/
import Derived.Test.YthbmmoajfghjbaaIsMatW
import Derived.Test.YthbmmoajfghjbaaTab
namespace Go.Proofs.Ythbmmoajfghjbaa
open Go.RowKit
set_option linter.unusedSimpArgs false
set_option linter.unusedVariables false
theorem isMat_ofM {R C : Nat} {M : Det.Mat} : isMat R C (ofM R C M) = true ↔ (R ≤ 24 ∧ C ≤ 24 ∧ ∀ i j, i < R → j < C → isNum (M i j) = true) := by
  simp only [isMat, Bool.and_eq_true, decide_eq_true_eq, ofM_length]
  constructor
  · rintro ⟨⟨_, h1, _, h2, _⟩, h3⟩
    refine ⟨by omega, by omega, fun i j hi hj => ?_⟩
    have := tab_all.1 h3 (i * C + j) (ix_lt hi hj)
    rwa [ix_div hj, ix_mod hj] at this
  · rintro ⟨h1, h2, h3⟩
    refine ⟨⟨by omega, by omega, by omega, by omega, by push_cast; rfl⟩, tab_all.2 fun p hp => ?_⟩
    obtain ⟨a1, a2, a3⟩ := ix_of hp
    exact h3 _ _ a1 a2
theorem isMat_cells {R C : Nat} {xs : List Int} (h : isMat R C xs = true) : ∀ i j, i < R → j < C → isNum (toM C xs i j) = true := by
  obtain ⟨_, _, _, _, h5, h6, _⟩ := isMat_t h
  have hl : xs.length = R * C := by have : (xs.length : Int) = ((R * C : Nat) : Int) := by rw [h5]; push_cast; rfl
                                    omega
  exact (isMat_ofM.1 (by rw [ofM_toM hl]; exact h)).2.2
theorem isMat_len {R C : Nat} {xs : List Int} (h : isMat R C xs = true) : xs.length = R * C := by
  obtain ⟨_, _, _, _, h5, _, _⟩ := isMat_t h
  have : (xs.length : Int) = ((R * C : Nat) : Int) := by rw [h5]; push_cast; rfl
  omega
end Go.Proofs.Ythbmmoajfghjbaa
