/- Sums and products with the mark, whatever the numbers. -/
import Derived.Test.YthbmmoajfghjbaaDoSw
import Derived.Test.YthbmmoajfghjbaaFitW
namespace Go.Proofs.Ythbmmoajfghjbaa
open Go.RowKit
set_option linter.unusedSimpArgs false
set_option linter.unusedVariables false
def mulZ (a b : Int) : Int := if a = badN ∨ b = badN then badN else fitN (wrap64 (a * b))
def addZ (a b : Int) : Int := if a = badN ∨ b = badN then badN else fitN (wrap64 (a + b))
theorem specMulAny (a b : Int) (w : World) :
    Calls Try.prog 47 #[.int .i64 a, .int .i64 b] w fun e w' => e = .returned (.int .i64 (mulZ a b)) ∧ w' = w := by
  by_cases ha : a = -4611686018427387904
  · have e1 : (a == -4611686018427387904) = true := by simpa using ha
    have HR : Hid (mulZ a b = -4611686018427387904) := by rw [Hid, mulZ, if_pos (.inl ha)]; rfl
    clear ha
    go_enter Try.func47, Try.ntmps47
    go_wp2
    go_returns
    exact ⟨by rw [HR.out]; rfl, rfl⟩
  · have e1 : (a == -4611686018427387904) = false := by simpa using ha
    by_cases hb : b = -4611686018427387904
    · have e2 : (b == -4611686018427387904) = true := by simpa using hb
      have HR : Hid (mulZ a b = -4611686018427387904) := by rw [Hid, mulZ, if_pos (.inr hb)]; rfl
      clear ha hb
      go_enter Try.func47, Try.ntmps47
      go_wp2
      go_returns
      exact ⟨by rw [HR.out]; rfl, rfl⟩
    · have e2 : (b == -4611686018427387904) = false := by simpa using hb
      have HR : Hid (mulZ a b = fitN (wrap64 (a * b))) := by rw [Hid, mulZ, if_neg (by simp only [badN]; omega)]
      clear ha hb
      rw [HR.out]
      go_enter Try.func47, Try.ntmps47
      go_wp2_with fail
      refine (specFit _ _).mono ?_; rintro e w1 ⟨rfl, rfl⟩
      go_wp2
      go_returns
      exact ⟨rfl, rfl⟩
theorem specAddAny (a b : Int) (w : World) :
    Calls Try.prog 48 #[.int .i64 a, .int .i64 b] w fun e w' => e = .returned (.int .i64 (addZ a b)) ∧ w' = w := by
  by_cases ha : a = -4611686018427387904
  · have e1 : (a == -4611686018427387904) = true := by simpa using ha
    have HR : Hid (addZ a b = -4611686018427387904) := by rw [Hid, addZ, if_pos (.inl ha)]; rfl
    clear ha
    go_enter Try.func48, Try.ntmps48
    go_wp2
    go_returns
    exact ⟨by rw [HR.out]; rfl, rfl⟩
  · have e1 : (a == -4611686018427387904) = false := by simpa using ha
    by_cases hb : b = -4611686018427387904
    · have e2 : (b == -4611686018427387904) = true := by simpa using hb
      have HR : Hid (addZ a b = -4611686018427387904) := by rw [Hid, addZ, if_pos (.inr hb)]; rfl
      clear ha hb
      go_enter Try.func48, Try.ntmps48
      go_wp2
      go_returns
      exact ⟨by rw [HR.out]; rfl, rfl⟩
    · have e2 : (b == -4611686018427387904) = false := by simpa using hb
      have HR : Hid (addZ a b = fitN (wrap64 (a + b))) := by rw [Hid, addZ, if_neg (by simp only [badN]; omega)]
      clear ha hb
      rw [HR.out]
      go_enter Try.func48, Try.ntmps48
      go_wp2_with fail
      refine (specFit _ _).mono ?_; rintro e w1 ⟨rfl, rfl⟩
      go_wp2
      go_returns
      exact ⟨rfl, rfl⟩
theorem opBox_drew {w : World} {b : Nat} {k i j t : Int} (h : OpBox w b k i j t) : OpBox w.drew b k i j t := h
theorem drew_grown {w w' : World} {g : Option Nat} (h : w.grownBy w' g) : w.grownBy w'.drew g := ⟨h.os, h.tape, h.output, h.size, h.block⟩
end Go.Proofs.Ythbmmoajfghjbaa
