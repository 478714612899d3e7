/- The walks of the functions on one row operation. -/
import Derived.Test.YthbmmoajfghjbaaNumW
namespace Go.Proofs.Ythbmmoajfghjbaa
open Go.RowKit
set_option linter.unusedSimpArgs false
set_option linter.unusedVariables false

abbrev opv (k i j t : Int) : Value := .agg #[.int .i64 k, .int .i64 i, .int .i64 j, .int .i64 t]
theorem ret_op {k i j t t' : Int} (h : t = t') : Ending.returned (opv k i j t) = .returned (opv k i j t') := by rw [h]

theorem toRowOp (k i j t : Int) (w : World) :
    Calls Try.prog 17 #[opv k i j t] w fun e w' => e = .returned (opv k i j t) ∧ Below w.heap.size w w' := by
  go_enter Try.func17, Try.ntmps17
  go_wp2
  go_returns
  exact ⟨rfl, (by repeat' (first | exact Below.refl _ _ | (refine Below.alloc ?_ ?_ _) | (refine Below.setCell ?_ ?_ _) | (refine Below.drew ?_) | (refine below_drewN ?_ _) | (refine Below.trans ?_ (Below.mono (by assumption) ?_)) | omega | (simp only [World.size_alloc, World.size_setCell, World.size_drew, size_drewN]; omega)))⟩

def undoT (k t : Int) : Int := if k = 2 then wrap64 (-t) else t
theorem implUndoRowOp (k i j t : Int) (w : World) :
    Calls Try.prog 27 #[opv k i j t] w fun e w' => e = .returned (opv k i j (undoT k t)) ∧ Below w.heap.size w w' := by
  by_cases hk : k = 2
  · subst hk
    go_enter Try.func27, Try.ntmps27
    go_wp2
    go_returns
    exact ⟨ret_op (by simp [undoT]), (by repeat' (first | exact Below.refl _ _ | (refine Below.alloc ?_ ?_ _) | (refine Below.setCell ?_ ?_ _) | (refine Below.drew ?_) | (refine below_drewN ?_ _) | (refine Below.trans ?_ (Below.mono (by assumption) ?_)) | omega | (simp only [World.size_alloc, World.size_setCell, World.size_drew, size_drewN]; omega)))⟩
  · have hk' : (k == 2) = false := by simpa using hk
    go_enter Try.func27, Try.ntmps27
    go_wp2
    go_returns
    exact ⟨ret_op (by simp [undoT, hk]), (by repeat' (first | exact Below.refl _ _ | (refine Below.alloc ?_ ?_ _) | (refine Below.setCell ?_ ?_ _) | (refine Below.drew ?_) | (refine below_drewN ?_ _) | (refine Below.trans ?_ (Below.mono (by assumption) ?_)) | omega | (simp only [World.size_alloc, World.size_setCell, World.size_drew, size_drewN]; omega)))⟩
theorem specUndoRowOp (k i j t : Int) (w : World) :
    Calls Try.prog 26 #[opv k i j t] w fun e w' => e = .returned (opv k i j (undoT k t)) ∧ Below w.heap.size w w' := by
  by_cases hk : k = 2
  · subst hk
    go_enter Try.func26, Try.ntmps26
    go_wp2
    go_returns
    exact ⟨ret_op (by simp [undoT]), (by repeat' (first | exact Below.refl _ _ | (refine Below.alloc ?_ ?_ _) | (refine Below.setCell ?_ ?_ _) | (refine Below.drew ?_) | (refine below_drewN ?_ _) | (refine Below.trans ?_ (Below.mono (by assumption) ?_)) | omega | (simp only [World.size_alloc, World.size_setCell, World.size_drew, size_drewN]; omega)))⟩
  · have hk' : (k == 2) = false := by simpa using hk
    go_enter Try.func26, Try.ntmps26
    go_wp2
    go_returns
    exact ⟨ret_op (by simp [undoT, hk]), (by repeat' (first | exact Below.refl _ _ | (refine Below.alloc ?_ ?_ _) | (refine Below.setCell ?_ ?_ _) | (refine Below.drew ?_) | (refine below_drewN ?_ _) | (refine Below.trans ?_ (Below.mono (by assumption) ?_)) | omega | (simp only [World.size_alloc, World.size_setCell, World.size_drew, size_drewN]; omega)))⟩

theorem eqRowOp_same (k i j t : Int) (w : World) :
    Calls Try.prog 28 #[opv k i j t, opv k i j t] w fun e w' => e = .returned (.bool true) ∧ Below w.heap.size w w' := by
  have e1 : (k != k) = false := by simp
  have e2 : (i != i) = false := by simp
  have e3 : (j != j) = false := by simp
  have e4 : (t != t) = false := by simp
  go_enter Try.func28, Try.ntmps28
  go_wp2
  go_returns
  exact ⟨rfl, (by repeat' (first | exact Below.refl _ _ | (refine Below.alloc ?_ ?_ _) | (refine Below.setCell ?_ ?_ _) | (refine Below.drew ?_) | (refine below_drewN ?_ _) | (refine Below.trans ?_ (Below.mono (by assumption) ?_)) | omega | (simp only [World.size_alloc, World.size_setCell, World.size_drew, size_drewN]; omega)))⟩

end Go.Proofs.Ythbmmoajfghjbaa
