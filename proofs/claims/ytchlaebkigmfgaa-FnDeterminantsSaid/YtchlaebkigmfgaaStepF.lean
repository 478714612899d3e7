/- The two determinants by elimination, on any matrix. -/
import Derived.Test.YtchlaebkigmfgaaStepW
import Derived.Test.YtchlaebkigmfgaaStepS
import Derived.Test.YtchlaebkigmfgaaDetF
namespace Go.Proofs.Ytchlaebkigmfgaa
open Go.RowKit
set_option linter.unusedSimpArgs false
set_option linter.unusedVariables false
theorem stepRes_yes {n : Nat} {xs : List Int} (h : isSq n n xs = true) : stepRes n n xs = stepsL n xs := by
  rw [stepRes, if_pos h]; rfl
set_option maxHeartbeats 2000000 in
theorem implSteps (r c : Int) (A : Option Addr) (cap : Nat) (xs : List Int) (w : World) (hA : Sl w A xs.length cap xs) (hn : xs.length ≤ 1048576) :
    Calls Try.prog 19 #[mv r c (.slice A xs.length cap)] w fun e w' => e = .returned (.tuple #[.int .i64 (stepRes r c xs).1, .bool (stepRes r c xs).2]) ∧ Below w.heap.size w w' := by
  rcases Bool.eq_false_or_eq_true (isSq r c xs) with hq | hq
  · obtain ⟨n, rfl, rfl, h6, hl, hx, _⟩ := isSq_t hq
    rw [stepRes_yes hq]
    exact implSteps_yes n A cap xs w hA h6 hl hx hn hq
  · have HA := hide hA; clear hA
    have HR : Hid (stepRes r c xs = (0, false)) := by rw [Hid, stepRes, if_neg (by simp [hq])]
    rw [HR.out]
    go_enter Try.func19, Try.ntmps19
    go_wp2_with fail
    refine (implIsSquare r c A cap xs _ (SlI.below HA.out.2.2.2.2 (by repeat' (first | exact Below.refl _ _ | (refine Below.alloc ?_ ?_ _) | (refine Below.setCell ?_ ?_ _) | (refine Below.drew ?_) | (refine below_drewN ?_ _) | (refine Below.trans ?_ (Below.mono (by assumption) ?_)) | omega | (simp only [World.size_alloc, World.size_setCell, World.size_drew, size_drewN]; omega)))) hn).mono ?_; rintro e w1 ⟨rfl, hb⟩
    go_wp2
    go_returns
    exact ⟨rfl, (by repeat' (first | exact Below.refl _ _ | (refine Below.alloc ?_ ?_ _) | (refine Below.setCell ?_ ?_ _) | (refine Below.drew ?_) | (refine below_drewN ?_ _) | (refine Below.trans ?_ (Below.mono (by assumption) ?_)) | omega | (simp only [World.size_alloc, World.size_setCell, World.size_drew, size_drewN]; omega)))⟩
set_option maxHeartbeats 2000000 in
theorem specSteps (r c : Int) (A : Option Addr) (cap : Nat) (xs : List Int) (w : World) (hA : Sl w A xs.length cap xs) (hn : xs.length ≤ 1048576) :
    Calls Try.prog 18 #[mv r c (.slice A xs.length cap)] w fun e w' => e = .returned (.tuple #[.int .i64 (stepRes r c xs).1, .bool (stepRes r c xs).2]) ∧ Below w.heap.size w w' := by
  rcases Bool.eq_false_or_eq_true (isSq r c xs) with hq | hq
  · obtain ⟨n, rfl, rfl, h6, hl, hx, _⟩ := isSq_t hq
    rw [stepRes_yes hq]
    exact specSteps_yes n A cap xs w hA h6 hl hx hn hq
  · have HA := hide hA; clear hA
    have HR : Hid (stepRes r c xs = (0, false)) := by rw [Hid, stepRes, if_neg (by simp [hq])]
    rw [HR.out]
    go_enter Try.func18, Try.ntmps18
    go_wp2_with fail
    refine (specIsSquare r c A cap xs _ (SlI.below HA.out.2.2.2.2 (by repeat' (first | exact Below.refl _ _ | (refine Below.alloc ?_ ?_ _) | (refine Below.setCell ?_ ?_ _) | (refine Below.drew ?_) | (refine below_drewN ?_ _) | (refine Below.trans ?_ (Below.mono (by assumption) ?_)) | omega | (simp only [World.size_alloc, World.size_setCell, World.size_drew, size_drewN]; omega)))) hn).mono ?_; rintro e w1 ⟨rfl, hb⟩
    go_wp2
    go_returns
    exact ⟨rfl, (by repeat' (first | exact Below.refl _ _ | (refine Below.alloc ?_ ?_ _) | (refine Below.setCell ?_ ?_ _) | (refine Below.drew ?_) | (refine below_drewN ?_ _) | (refine Below.trans ?_ (Below.mono (by assumption) ?_)) | omega | (simp only [World.size_alloc, World.size_setCell, World.size_drew, size_drewN]; omega)))⟩
end Go.Proofs.Ytchlaebkigmfgaa
