/- The walks of the reference's sums and products that mark what is beyond the limit. -/
import Derived.Test.YthbmmoajfghjbaaNumW
import Derived.IntWalk
namespace Go.Proofs.Ythbmmoajfghjbaa
open Go.RowKit
set_option linter.unusedSimpArgs false
set_option linter.unusedVariables false

def badN : Int := -4611686018427387904
def fitN (n : Int) : Int := if isNum n = true then n else badN
def addN (a b : Int) : Int := if a = badN ∨ b = badN then badN else fitN (a + b)
def mulN (a b : Int) : Int := if a = badN ∨ b = badN then badN else fitN (a * b)
theorem badN_no : isNum badN = false := by decide
theorem num_ne {n : Int} (h : isNum n = true) : n ≠ badN := fun e => by rw [e, badN_no] at h; cases h
theorem specFit (n : Int) (w : World) :
    Calls Try.prog 55 #[.int .i64 n] w fun e w' => e = .returned (.int .i64 (fitN n)) ∧ w = w' := by
  rcases Bool.eq_false_or_eq_true (isNum n) with h | h
  · have hb := isNum_t h
    have HF : Hid (fitN n = n) := by rw [Hid, fitN, if_pos h]
    have d1 : decide (-400000000 ≤ n ∧ n ≤ 400000000) = true := decide_eq_true hb
    clear hb
    go_enter Try.func55, Try.ntmps55
    go_wp2_with (go_at_call 45; refine (specIn _ _ _ _).mono ?_; rintro e w' ⟨rfl, rfl⟩)
    go_ret
    exact ⟨ret_int HF.out.symm, rfl⟩
  · have hb := isNum_f h
    have HF : Hid (fitN n = -4611686018427387904) := by rw [Hid, fitN, if_neg (by simp [h])]; rfl
    have d1 : decide (-400000000 ≤ n ∧ n ≤ 400000000) = false := decide_eq_false hb
    clear hb
    go_enter Try.func55, Try.ntmps55
    go_wp2_with (go_at_call 45; refine (specIn _ _ _ _).mono ?_; rintro e w' ⟨rfl, rfl⟩)
    go_ret
    exact ⟨ret_int HF.out.symm, rfl⟩
/-- Of two numbers that are not marked, their sum in range. -/
theorem specFitAdd_in (a b : Int) (w : World) (ha : a ≠ badN) (hb : b ≠ badN) (h : -9223372036854775808 ≤ a + b ∧ a + b ≤ 9223372036854775807) :
    Calls Try.prog 48 #[.int .i64 a, .int .i64 b] w fun e w' => e = .returned (.int .i64 (fitN (a + b))) ∧ w = w' := by
  have e1 : (a == -4611686018427387904) = false := by simpa [badN] using ha
  have e2 : (b == -4611686018427387904) = false := by simpa [badN] using hb
  clear ha hb
  go_enter Try.func48, Try.ntmps48
  go_wp2_with (go_at_call 55; refine (specFit _ _).mono ?_; rintro e w' ⟨rfl, rfl⟩)
  go_ret
  exact ⟨rfl, rfl⟩
theorem specFitAdd_bad (a : Int) (w : World) (ha : a ≠ badN) :
    Calls Try.prog 48 #[.int .i64 a, .int .i64 badN] w fun e w' => e = .returned (.int .i64 badN) ∧ w = w' := by
  have e1 : (a == -4611686018427387904) = false := by simpa [badN] using ha
  clear ha
  unfold badN
  go_enter Try.func48, Try.ntmps48
  go_wp2
  go_ret
  exact ⟨rfl, rfl⟩
theorem specMul_num (a b : Int) (w : World) (ha : a ≠ badN) (hb : b ≠ badN) (h : -9223372036854775808 ≤ a * b ∧ a * b ≤ 9223372036854775807) :
    Calls Try.prog 47 #[.int .i64 a, .int .i64 b] w fun e w' => e = .returned (.int .i64 (fitN (a * b))) ∧ w = w' := by
  have e1 : (a == -4611686018427387904) = false := by simpa [badN] using ha
  have e2 : (b == -4611686018427387904) = false := by simpa [badN] using hb
  have q1 : IntKind.i64.wrap (a * b) = a * b := IntWalk.i64_in _ h
  clear ha hb
  go_enter Try.func47, Try.ntmps47
  go_wp2_with (go_at_call 55; refine (specFit _ _).mono ?_; rintro e w' ⟨rfl, rfl⟩)
  go_ret
  exact ⟨rfl, rfl⟩
end Go.Proofs.Ythbmmoajfghjbaa
