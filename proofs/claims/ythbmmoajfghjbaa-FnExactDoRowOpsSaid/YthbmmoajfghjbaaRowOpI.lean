/- The walks of IsRowOp, the program's and the reference's. -/
import Derived.Test.YthbmmoajfghjbaaRowOpW
namespace Go.Proofs.Ythbmmoajfghjbaa
open Go.RowKit
set_option linter.unusedSimpArgs false
set_option linter.unusedVariables false

def isRowOp (k i j t rows : Int) : Bool := decide (0 ≤ rows ∧ rows ≤ 24 ∧ 0 ≤ i ∧ i < rows ∧ 0 ≤ j ∧ j < rows) && isNum t &&
  ((decide (k = 0 ∧ i ≠ j ∧ t = 0)) || decide (k = 1 ∧ i = j ∧ t = 0) || decide (k = 2 ∧ i ≠ j))
theorem isRowOp_out {k i j t rows : Int} (h : ¬ (0 ≤ rows ∧ rows ≤ 24 ∧ 0 ≤ i ∧ i < rows ∧ 0 ≤ j ∧ j < rows)) : isRowOp k i j t rows = false := by
  unfold isRowOp; rw [decide_eq_false h]; simp
theorem isRowOp_in {k i j t rows : Int} (h : 0 ≤ rows ∧ rows ≤ 24 ∧ 0 ≤ i ∧ i < rows ∧ 0 ≤ j ∧ j < rows) : isRowOp k i j t rows = (isNum t && ((decide (k = 0 ∧ i ≠ j ∧ t = 0)) || decide (k = 1 ∧ i = j ∧ t = 0) || decide (k = 2 ∧ i ≠ j))) := by
  unfold isRowOp; rw [decide_eq_true h]; simp
theorem isRowOp_fin {k i j t rows : Int} {b : Bool} (h : 0 ≤ rows ∧ rows ≤ 24 ∧ 0 ≤ i ∧ i < rows ∧ 0 ≤ j ∧ j < rows)
    (hb : b = (isNum t && (if k = 0 then (i != j && t == 0) else if k = 1 then (i == j && t == 0) else if k = 2 then i != j else false))) : b = isRowOp k i j t rows := by
  rw [isRowOp_in h, hb, Bool.eq_iff_iff]
  by_cases h0 : k = 0
  · subst h0; simp
  · by_cases h1 : k = 1
    · subst h1; simp
    · by_cases h2 : k = 2
      · subst h2; simp
      · simp [h0, h1, h2]
set_option maxHeartbeats 1000000 in
theorem implIsRowOp (k i j t rows : Int) (w : World) :
    Calls Try.prog 37 #[opv k i j t, .int .i64 rows] w fun e w' => e = .returned (.bool (isRowOp k i j t rows)) ∧ Below w.heap.size w w' := by
  by_cases hin : 0 ≤ rows ∧ rows ≤ 24 ∧ 0 ≤ i ∧ i < rows ∧ 0 ≤ j ∧ j < rows
  · have HI := hide hin
    obtain ⟨h1, h2, h3, h4, h5, h6⟩ := hin
    rcases Bool.eq_false_or_eq_true (isNum t) with ht | ht
    · go_enter Try.func37, Try.ntmps37
      go_wp2_with (go_at_call 50; refine (implIsNumber _ _).mono ?_; rintro e w' ⟨rfl, rfl⟩)
      all_goals
        go_returns
        refine ⟨ret_bool (isRowOp_fin HI.out ?_), (by repeat' (first | exact Below.refl _ _ | (refine Below.alloc ?_ ?_ _) | (refine Below.setCell ?_ ?_ _) | (refine Below.drew ?_) | (refine below_drewN ?_ _) | (refine Below.trans ?_ (Below.mono (by assumption) ?_)) | omega | (simp only [World.size_alloc, World.size_setCell, World.size_drew, size_drewN]; omega)))⟩
        simp only [beq_iff_eq, beq_eq_false_iff_ne, ne_eq] at *
        simp [*]
    · go_enter Try.func37, Try.ntmps37
      go_wp2_with (go_at_call 50; refine (implIsNumber _ _).mono ?_; rintro e w' ⟨rfl, rfl⟩)
      all_goals
        go_returns
        exact ⟨ret_bool (isRowOp_fin HI.out (by simp [ht])), (by repeat' (first | exact Below.refl _ _ | (refine Below.alloc ?_ ?_ _) | (refine Below.setCell ?_ ?_ _) | (refine Below.drew ?_) | (refine below_drewN ?_ _) | (refine Below.trans ?_ (Below.mono (by assumption) ?_)) | omega | (simp only [World.size_alloc, World.size_setCell, World.size_drew, size_drewN]; omega)))⟩
  · have HF := hide (isRowOp_out (k := k) (t := t) hin)
    have HI := hide hin; clear hin
    go_enter Try.func37, Try.ntmps37
    go_wp2_with (go_at_call 50; refine (implIsNumber _ _).mono ?_; rintro e w' ⟨rfl, rfl⟩)
    all_goals first
      | (exfalso; have := HI.out; omega)
      | (go_returns; exact ⟨ret_bool (by rw [HF.out]), (by repeat' (first | exact Below.refl _ _ | (refine Below.alloc ?_ ?_ _) | (refine Below.setCell ?_ ?_ _) | (refine Below.drew ?_) | (refine below_drewN ?_ _) | (refine Below.trans ?_ (Below.mono (by assumption) ?_)) | omega | (simp only [World.size_alloc, World.size_setCell, World.size_drew, size_drewN]; omega)))⟩)
theorem isRowOp_kind {k i j t rows : Int} (h : ¬ (0 ≤ k ∧ k ≤ 2)) : isRowOp k i j t rows = false := by
  have h0 : k ≠ 0 := by omega
  have h1 : k ≠ 1 := by omega
  have h2 : k ≠ 2 := by omega
  unfold isRowOp; simp [h0, h1, h2]
set_option maxHeartbeats 1000000 in
theorem specIsRowOp (k i j t rows : Int) (w : World) (hr : -9223372036854775808 ≤ rows) (hr' : rows ≤ 9223372036854775807) :
    Calls Try.prog 31 #[opv k i j t, .int .i64 rows] w fun e w' => e = .returned (.bool (isRowOp k i j t rows)) ∧ Below w.heap.size w w' := by
  by_cases hin : 0 ≤ rows ∧ rows ≤ 24 ∧ 0 ≤ i ∧ i < rows ∧ 0 ≤ j ∧ j < rows
  · have HI := hide hin
    obtain ⟨h1, h2, h3, h4, h5, h6⟩ := hin
    by_cases hk : 0 ≤ k ∧ k ≤ 2
    · obtain ⟨hk0, hk2⟩ := hk
      have d1 : decide (0 ≤ k ∧ k ≤ 2) = true := decide_eq_true ⟨hk0, hk2⟩
      have d2 : decide (0 ≤ rows ∧ rows ≤ 24) = true := decide_eq_true ⟨h1, h2⟩
      have d3 : decide (0 ≤ i ∧ i ≤ rows - 1) = true := decide_eq_true ⟨h3, by omega⟩
      have d4 : decide (0 ≤ j ∧ j ≤ rows - 1) = true := decide_eq_true ⟨h5, by omega⟩
      rcases Bool.eq_false_or_eq_true (isNum t) with ht | ht
      · go_enter Try.func31, Try.ntmps31
        go_wp2_with (first
          | (go_at_call 45; refine (specIn _ _ _ _).mono ?_; rintro e w' ⟨rfl, rfl⟩)
          | (go_at_call 46; refine (specIsNumber _ _).mono ?_; rintro e w' ⟨rfl, rfl⟩))
        all_goals
          go_returns
          refine ⟨ret_bool (isRowOp_fin HI.out ?_), (by repeat' (first | exact Below.refl _ _ | (refine Below.alloc ?_ ?_ _) | (refine Below.setCell ?_ ?_ _) | (refine Below.drew ?_) | (refine below_drewN ?_ _) | (refine Below.trans ?_ (Below.mono (by assumption) ?_)) | omega | (simp only [World.size_alloc, World.size_setCell, World.size_drew, size_drewN]; omega)))⟩
          simp only [beq_iff_eq, beq_eq_false_iff_ne, ne_eq] at *
          first
            | (simp [*]; done)
            | (rw [bne_comm (a := i)]; simp [*]; done)
            | (have hij : ¬ i = j := fun h => absurd h.symm (by assumption)
               simp [*]; done)
            | (have hk0 : ¬ k = 0 := by assumption
               have hk1 : ¬ k = 1 := by assumption
               have hk : k = 2 := by omega
               subst hk
               rw [bne_comm (a := i)]
               simp [*]; done)
      · go_enter Try.func31, Try.ntmps31
        go_wp2_with (first
          | (go_at_call 45; refine (specIn _ _ _ _).mono ?_; rintro e w' ⟨rfl, rfl⟩)
          | (go_at_call 46; refine (specIsNumber _ _).mono ?_; rintro e w' ⟨rfl, rfl⟩))
        all_goals
          go_returns
          exact ⟨ret_bool (isRowOp_fin HI.out (by simp [ht])), (by repeat' (first | exact Below.refl _ _ | (refine Below.alloc ?_ ?_ _) | (refine Below.setCell ?_ ?_ _) | (refine Below.drew ?_) | (refine below_drewN ?_ _) | (refine Below.trans ?_ (Below.mono (by assumption) ?_)) | omega | (simp only [World.size_alloc, World.size_setCell, World.size_drew, size_drewN]; omega)))⟩
    · have HF := hide (isRowOp_kind (i := i) (j := j) (t := t) (rows := rows) hk)
      have d1 : decide (0 ≤ k ∧ k ≤ 2) = false := decide_eq_false hk
      clear hk
      go_enter Try.func31, Try.ntmps31
      go_wp2_with (first
        | (go_at_call 45; refine (specIn _ _ _ _).mono ?_; rintro e w' ⟨rfl, rfl⟩)
        | (go_at_call 46; refine (specIsNumber _ _).mono ?_; rintro e w' ⟨rfl, rfl⟩))
      go_returns
      exact ⟨ret_bool (by rw [HF.out]), (by repeat' (first | exact Below.refl _ _ | (refine Below.alloc ?_ ?_ _) | (refine Below.setCell ?_ ?_ _) | (refine Below.drew ?_) | (refine below_drewN ?_ _) | (refine Below.trans ?_ (Below.mono (by assumption) ?_)) | omega | (simp only [World.size_alloc, World.size_setCell, World.size_drew, size_drewN]; omega)))⟩
  · have HF := hide (isRowOp_out (k := k) (t := t) hin)
    have HI := hide hin; clear hin
    go_enter Try.func31, Try.ntmps31
    go_wp2_with (first
      | (go_at_call 45; refine (specIn _ _ _ _).mono ?_; rintro e w' ⟨rfl, rfl⟩)
      | (go_at_call 46; refine (specIsNumber _ _).mono ?_; rintro e w' ⟨rfl, rfl⟩))
    all_goals first
      | (exfalso; have := HI.out; omega)
      | (go_returns; exact ⟨ret_bool (by rw [HF.out]), (by repeat' (first | exact Below.refl _ _ | (refine Below.alloc ?_ ?_ _) | (refine Below.setCell ?_ ?_ _) | (refine Below.drew ?_) | (refine below_drewN ?_ _) | (refine Below.trans ?_ (Below.mono (by assumption) ?_)) | omega | (simp only [World.size_alloc, World.size_setCell, World.size_drew, size_drewN]; omega)))⟩)
end Go.Proofs.Ythbmmoajfghjbaa
