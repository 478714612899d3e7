/- The walks of the functions on whole numbers. -/
import Derived.Test.YtkoopheikdbliaaRows
import Derived.Test.YtkoopheikdbliaaNum
import Derived.WalkKit
import Derived.WalkSpells
import Derived.Handy
import Derived.Deep.QuietTactic
import Derived.BigQuiet
namespace Go.Proofs.Ytkoopheikdbliaa
open Go.RowKit
set_option linter.unusedSimpArgs false
set_option linter.unusedVariables false

theorem implIsNumber (n : Int) (w : World) :
    Calls Try.prog 34 #[.int .i64 n] w fun e w' => e = .returned (.bool (isNum n)) ∧ w = w' := by
  go_enter Try.func34, Try.ntmps34
  go_wp2
  all_goals (go_ret; exact ⟨by simp [isNum] <;> omega, rfl⟩)

theorem specIn (x lo hi : Int) (w : World) :
    Calls Try.prog 40 #[.int .i64 x, .int .i64 lo, .int .i64 hi] w fun e w' => e = .returned (.bool (decide (lo ≤ x ∧ x ≤ hi))) ∧ w = w' := by
  go_enter Try.func40, Try.ntmps40
  go_wp2
  all_goals (go_ret; exact ⟨by simp [*] <;> omega, rfl⟩)

theorem specIsNumber (n : Int) (w : World) :
    Calls Try.prog 35 #[.int .i64 n] w fun e w' => e = .returned (.bool (isNum n)) ∧ w = w' := by
  go_enter Try.func35, Try.ntmps35
  go_wp2_with (go_at_call 40; refine (specIn _ _ _ _).mono ?_; rintro e w' ⟨rfl, rfl⟩)
  all_goals (go_ret; exact ⟨by simp [isNum] <;> omega, rfl⟩)

theorem absInt (n : Int) (w : World) (h : -9223372036854775808 < n) (h' : n ≤ 9223372036854775807):
    Calls Try.prog 47 #[.int .i64 n] w fun e w' => e = .returned (.int .i64 (n.natAbs : Int)) ∧ w = w' := by
  go_enter Try.func47, Try.ntmps47
  go_wp2
  all_goals (go_ret; exact ⟨ret_int (by omega), rfl⟩)

theorem specAbs (n : Int) (w : World) (h : -9223372036854775808 < n) (h' : n ≤ 9223372036854775807):
    Calls Try.prog 43 #[.int .i64 n] w fun e w' => e = .returned (.int .i64 (n.natAbs : Int)) ∧ w = w' := by
  go_enter Try.func43, Try.ntmps43
  go_wp2
  all_goals (go_ret; exact ⟨ret_int (by omega), rfl⟩)

theorem absInt_at (n x : Int) (hx : Hid ((n.natAbs : Int) = x)) (w : World) (h : -9223372036854775808 < n) (h' : n ≤ 9223372036854775807):
    Calls Try.prog 47 #[.int .i64 n] w fun e w' => e = .returned (.int .i64 x) ∧ w = w' :=
  (absInt n w h h').mono fun _ _ ⟨he, hw⟩ => ⟨by rw [he, hx.out], hw⟩
theorem specAbs_at (n x : Int) (hx : Hid ((n.natAbs : Int) = x)) (w : World) (h : -9223372036854775808 < n) (h' : n ≤ 9223372036854775807):
    Calls Try.prog 43 #[.int .i64 n] w fun e w' => e = .returned (.int .i64 x) ∧ w = w' :=
  (specAbs n w h h').mono fun _ _ ⟨he, hw⟩ => ⟨by rw [he, hx.out], hw⟩

theorem implGcd (a b : Int) (w : World) (h : -9223372036854775808 < a) (h' : a ≤ 9223372036854775807) (h2 : -9223372036854775808 < b) (h2' : b ≤ 9223372036854775807):
    Calls Try.prog 36 #[.int .i64 a, .int .i64 b] w fun e w' => e = .returned (.int .i64 (Int.gcd a b : Int)) ∧ ∃ n, w' = w.drewN n := by
  go_enter Try.func36, Try.ntmps36
  go_wp2
  go_loopw [0, 1] (fun x y wr => ∃ (p q : Int) (n : Nat), -9223372036854775808 < p ∧ p ≤ 9223372036854775807 ∧ -9223372036854775808 < q ∧ q ≤ 9223372036854775807 ∧ Hid (Int.gcd p q = Int.gcd a b) ∧ x = .int .i64 p ∧ y = .int .i64 q ∧ wr = w.drewN n) (fun _ y _ => (intOf y).natAbs)
  case atStart => exact ⟨a, b, 0, h, h', h2, h2', rfl, rfl, rfl, rfl⟩
  case round =>
    obtain ⟨p, q, n, hp, hp', hq, hq', hg, rfl, rfl, rfl⟩ := hrel
    by_cases hz : q = 0
    · subst hz
      go_wp2_with (go_at_call 47; refine (absInt _ _ (by omega) (by omega)).mono ?_; rintro e w' ⟨rfl, rfl⟩)
      go_ret
      refine ⟨ret_int ?_, n, rfl⟩
      rw [← hg.out]; simp
    · have hz' : (q == 0) = false := by simpa using hz
      have hz2 : (q != 0) = true := by simpa using hz
      go_wp2
      go_quiet (fail)
      go_wp2
      go_roundw
      case rel => exact ⟨q, p.tmod q, _, hq, hq', (tmod_in p q hz hq hq').1, (tmod_in p q hz hq hq').2, by rw [Hid, gcd_tmod]; exact hg.out, rfl, rfl, by rw [World.drewN_drewN]⟩
      case measure => exact tmod_lt p q hz

/-- The greatest common divisor as both define it. -/
def gcdOf (a b : Int) : Int := if isNum a = true ∧ isNum b = true then (Int.gcd a b : Int) else 0

theorem implGcdOf (a b : Int) (w : World) :
    Calls Try.prog 21 #[.int .i64 a, .int .i64 b] w fun e w' => e = .returned (.int .i64 (gcdOf a b)) ∧ ∃ n, w' = w.drewN n := by
  by_cases ha : isNum a = true
  · by_cases hb : isNum b = true
    · have h1 := isNum_t ha
      have h2 := isNum_t hb
      go_enter Try.func21, Try.ntmps21
      go_wp2_with (first
        | (go_at_call 34; refine (implIsNumber _ _).mono ?_; rintro e w' ⟨rfl, rfl⟩)
        | (go_at_call 36; refine (implGcd _ _ _ (by omega) (by omega) (by omega) (by omega)).mono ?_; rintro e w' ⟨rfl, n, rfl⟩))
      go_ret
      exact ⟨ret_int (by rw [gcdOf, if_pos ⟨ha, hb⟩]), n, rfl⟩
    · have hb' : isNum b = false := by simpa using hb
      go_enter Try.func21, Try.ntmps21
      go_wp2_with (go_at_call 34; refine (implIsNumber _ _).mono ?_; rintro e w' ⟨rfl, rfl⟩)
      go_ret
      exact ⟨ret_int (by rw [gcdOf, if_neg (by simp [hb'])]), 0, rfl⟩
  · have ha' : isNum a = false := by simpa using ha
    go_enter Try.func21, Try.ntmps21
    go_wp2_with (go_at_call 34; refine (implIsNumber _ _).mono ?_; rintro e w' ⟨rfl, rfl⟩)
    go_ret
    exact ⟨ret_int (by rw [gcdOf, if_neg (by simp [ha'])]), 0, rfl⟩

theorem specGcdOf (a b : Int) (w : World) :
    Calls Try.prog 41 #[.int .i64 a, .int .i64 b] w fun e w' => e = .returned (.int .i64 (gcdOf a b)) ∧ ∃ n, w' = w.drewN n := by
  by_cases ha : isNum a = true
  · by_cases hb : isNum b = true
    · have h1 := isNum_t ha
      have h2 := isNum_t hb
      go_enter Try.func41, Try.ntmps41
      go_wp2_with (go_at_call 35; refine (specIsNumber _ _).mono ?_; rintro e w' ⟨rfl, rfl⟩)
      go_loopw [0, 1] (fun x y wr => ∃ (p q : Int) (n : Nat), -9223372036854775808 < p ∧ p ≤ 9223372036854775807 ∧ -9223372036854775808 < q ∧ q ≤ 9223372036854775807 ∧ Hid (Int.gcd p q = Int.gcd a b) ∧ x = .int .i64 p ∧ y = .int .i64 q ∧ wr = w.drewN n) (fun _ y _ => (intOf y).natAbs)
      case atStart => exact ⟨a, b, 0, by omega, by omega, by omega, by omega, rfl, rfl, rfl, rfl⟩
      case round =>
        obtain ⟨p, q, n, hp, hp', hq, hq', hg, rfl, rfl, rfl⟩ := hrel
        by_cases hz : q = 0
        · subst hz
          go_wp2_with (go_at_call 43; refine (specAbs _ _ (by omega) (by omega)).mono ?_; rintro e w' ⟨rfl, rfl⟩)
          go_ret
          refine ⟨ret_int ?_, n, rfl⟩
          rw [gcdOf, if_pos ⟨ha, hb⟩, ← hg.out]; simp
        · have hz' : (q == 0) = false := by simpa using hz
          have hz2 : (q != 0) = true := by simpa using hz
          go_wp2
          go_quiet (fail)
          go_wp2
          go_roundw
          case rel => exact ⟨q, p.tmod q, _, hq, hq', (tmod_in p q hz hq hq').1, (tmod_in p q hz hq hq').2, by rw [Hid, gcd_tmod]; exact hg.out, rfl, rfl, by rw [World.drewN_drewN]⟩
          case measure => exact tmod_lt p q hz
    · have hb' : isNum b = false := by simpa using hb
      go_enter Try.func41, Try.ntmps41
      go_wp2_with (go_at_call 35; refine (specIsNumber _ _).mono ?_; rintro e w' ⟨rfl, rfl⟩)
      go_ret
      exact ⟨ret_int (by rw [gcdOf, if_neg (by simp [hb'])]), 0, rfl⟩
  · have ha' : isNum a = false := by simpa using ha
    go_enter Try.func41, Try.ntmps41
    go_wp2_with (go_at_call 35; refine (specIsNumber _ _).mono ?_; rintro e w' ⟨rfl, rfl⟩)
    go_ret
    exact ⟨ret_int (by rw [gcdOf, if_neg (by simp [ha'])]), 0, rfl⟩
end Go.Proofs.Ytkoopheikdbliaa
