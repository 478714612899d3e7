/- The walks of the functions on ratios. -/
import Derived.Test.YtgainadhccjhbaaDoorNumW
import Derived.Test.YtgainadhccjhbaaDoorRat
import Derived.RegionTactic
import Derived.BigRegion
import Derived.ChangeAlike
namespace Go.Proofs.YtgainadhccjhbaaDoor
open Go.RowKit
set_option linter.unusedSimpArgs false
set_option linter.unusedVariables false

abbrev rv (n d : Int) : Value := .agg #[.int .i64 n, .int .i64 d]
theorem ret_rv {n d n' d' : Int} (h : n = n') (h' : d = d') : Ending.returned (rv n d) = .returned (rv n' d') := by rw [h, h']
theorem ret_rp {n d : Int} {p : Int × Int} (h : p = (n, d)) : Ending.returned (rv n d) = .returned (rv p.1 p.2) := by rw [h]

theorem toRatio (n d : Int) (w : World) :
    Calls Tryd.prog 10 #[rv n d] w fun e w' => e = .returned (rv n d) ∧ Below w.heap.size w w' := by
  go_enter Tryd.func10, Tryd.ntmps10
  go_wp2
  go_returns
  exact ⟨rfl, (by repeat' (first | exact Below.refl _ _ | (refine Below.alloc ?_ ?_ _) | (refine Below.setCell ?_ ?_ _) | (refine Below.drew ?_) | (refine below_drewN ?_ _) | (refine Below.trans ?_ (Below.mono (by assumption) ?_)) | omega | (simp only [World.size_alloc, World.size_setCell, World.size_drew, size_drewN]; omega)))⟩


theorem implIsRatio (n d : Int) (w : World) :
    Calls Tryd.prog 23 #[rv n d] w fun e w' => e = .returned (.bool (isRatio n d)) ∧ Below w.heap.size w w' := by
  by_cases h1 : 1 ≤ d ∧ d ≤ 400000000
  · rcases Bool.eq_false_or_eq_true (isNum n) with h2 | h2
    · have HF := hide (isRatio_fin h1 h2)
      have h3 := isNum_t h2
      go_enter Tryd.func23, Tryd.ntmps23
      go_wp2_with (first
        | (go_at_call 33; refine (implIsNumber _ _).mono ?_; rintro e w' ⟨rfl, rfl⟩)
        | (go_at_call 34; refine (implGcd _ _ _ (by omega) (by omega) (by omega) (by omega)).mono ?_; rintro e w' ⟨rfl, k, rfl⟩))
      go_returns
      exact ⟨ret_bool HF.out.symm, (by repeat' (first | exact Below.refl _ _ | (refine Below.alloc ?_ ?_ _) | (refine Below.setCell ?_ ?_ _) | (refine Below.drew ?_) | (refine below_drewN ?_ _) | (refine Below.trans ?_ (Below.mono (by assumption) ?_)) | omega | (simp only [World.size_alloc, World.size_setCell, World.size_drew, size_drewN]; omega)))⟩
    · have HF := hide (isRatio_no2 (d := d) h2)
      go_enter Tryd.func23, Tryd.ntmps23
      go_wp2_with (go_at_call 33; refine (implIsNumber _ _).mono ?_; rintro e w' ⟨rfl, rfl⟩)
      go_returns
      exact ⟨ret_bool HF.out.symm, (by repeat' (first | exact Below.refl _ _ | (refine Below.alloc ?_ ?_ _) | (refine Below.setCell ?_ ?_ _) | (refine Below.drew ?_) | (refine below_drewN ?_ _) | (refine Below.trans ?_ (Below.mono (by assumption) ?_)) | omega | (simp only [World.size_alloc, World.size_setCell, World.size_drew, size_drewN]; omega)))⟩
  · have HF := hide (isRatio_no1 (n := n) h1)
    have HI := hide h1; clear h1
    go_enter Tryd.func23, Tryd.ntmps23
    go_wp2_with (first
      | (go_at_call 33; refine (implIsNumber _ _).mono ?_; rintro e w' ⟨rfl, rfl⟩))
    all_goals first
      | (exfalso; have := HI.out; omega)
      | (go_returns; exact ⟨ret_bool HF.out.symm, (by repeat' (first | exact Below.refl _ _ | (refine Below.alloc ?_ ?_ _) | (refine Below.setCell ?_ ?_ _) | (refine Below.drew ?_) | (refine below_drewN ?_ _) | (refine Below.trans ?_ (Below.mono (by assumption) ?_)) | omega | (simp only [World.size_alloc, World.size_setCell, World.size_drew, size_drewN]; omega)))⟩)
theorem specIsRatio (n d : Int) (w : World) :
    Calls Tryd.prog 22 #[rv n d] w fun e w' => e = .returned (.bool (isRatio n d)) ∧ Below w.heap.size w w' := by
  by_cases h1 : 1 ≤ d ∧ d ≤ 400000000
  · have d1 : decide (1 ≤ d ∧ d ≤ 400000000) = true := decide_eq_true h1
    rcases Bool.eq_false_or_eq_true (isNum n) with h2 | h2
    · have h4 : isNum d = true := isNum_mk (by omega)
      have HF : Hid (isRatio n d = (gcdOf n d == 1)) := by rw [Hid, isRatio_fin h1 h2, gcdOf, if_pos ⟨h2, h4⟩]
      go_enter Tryd.func22, Tryd.ntmps22
      go_wp2_with (first
        | (go_at_call 30; refine (specIn _ _ _ _).mono ?_; rintro e w' ⟨rfl, rfl⟩)
        | (go_at_call 31; refine (specIsNumber _ _).mono ?_; rintro e w' ⟨rfl, rfl⟩)
        | (go_at_call 32; refine (specGcdOf _ _ _).mono ?_; rintro e w' ⟨rfl, k, rfl⟩))
      go_returns
      exact ⟨ret_bool HF.out.symm, (by repeat' (first | exact Below.refl _ _ | (refine Below.alloc ?_ ?_ _) | (refine Below.setCell ?_ ?_ _) | (refine Below.drew ?_) | (refine below_drewN ?_ _) | (refine Below.trans ?_ (Below.mono (by assumption) ?_)) | omega | (simp only [World.size_alloc, World.size_setCell, World.size_drew, size_drewN]; omega)))⟩
    · have HF := hide (isRatio_no2 (d := d) h2)
      go_enter Tryd.func22, Tryd.ntmps22
      go_wp2_with (first
        | (go_at_call 30; refine (specIn _ _ _ _).mono ?_; rintro e w' ⟨rfl, rfl⟩)
        | (go_at_call 31; refine (specIsNumber _ _).mono ?_; rintro e w' ⟨rfl, rfl⟩))
      go_returns
      exact ⟨ret_bool HF.out.symm, (by repeat' (first | exact Below.refl _ _ | (refine Below.alloc ?_ ?_ _) | (refine Below.setCell ?_ ?_ _) | (refine Below.drew ?_) | (refine below_drewN ?_ _) | (refine Below.trans ?_ (Below.mono (by assumption) ?_)) | omega | (simp only [World.size_alloc, World.size_setCell, World.size_drew, size_drewN]; omega)))⟩
  · have HF := hide (isRatio_no1 (n := n) h1)
    have d1 : decide (1 ≤ d ∧ d ≤ 400000000) = false := decide_eq_false h1
    clear h1
    go_enter Tryd.func22, Tryd.ntmps22
    go_wp2_with (first
      | (go_at_call 30; refine (specIn _ _ _ _).mono ?_; rintro e w' ⟨rfl, rfl⟩)
      | (go_at_call 31; refine (specIsNumber _ _).mono ?_; rintro e w' ⟨rfl, rfl⟩))
    go_returns
    exact ⟨ret_bool HF.out.symm, (by repeat' (first | exact Below.refl _ _ | (refine Below.alloc ?_ ?_ _) | (refine Below.setCell ?_ ?_ _) | (refine Below.drew ?_) | (refine below_drewN ?_ _) | (refine Below.trans ?_ (Below.mono (by assumption) ?_)) | omega | (simp only [World.size_alloc, World.size_setCell, World.size_drew, size_drewN]; omega)))⟩

theorem low_yes {n d n' d' : Int} (h : d ≠ 0) (h1 : lowN n d = n') (h2 : lowD n d = d') (h3 : isRatio n' d' = true) : low n d = (n', d') := by
  unfold low lowOk; rw [h1, h2, h3, if_pos (by simpa using h)]
theorem low_no {n d n' d' : Int} (h1 : lowN n d = n') (h2 : lowD n d = d') (h3 : isRatio n' d' = false) : low n d = (0, 0) := by
  unfold low lowOk; rw [h1, h2, h3, if_neg (by simp)]


end Go.Proofs.YtgainadhccjhbaaDoor
