/- Plain laws on ratios: no program in sight. -/
import Derived.Test.YtkoopheikdbliaaNum
namespace Go.Proofs.Ytkoopheikdbliaa
open Go.RowKit
set_option linter.unusedSimpArgs false
set_option linter.unusedVariables false

def isRatio (n d : Int) : Bool := decide (1 ≤ d ∧ d ≤ 400000000) && isNum n && decide (Int.gcd n d = 1)
theorem isRatio_t {n d : Int} (h : isRatio n d = true) : (-400000000 ≤ n ∧ n ≤ 400000000) ∧ (1 ≤ d ∧ d ≤ 400000000) ∧ Int.gcd n d = 1 := by
  simp only [isRatio, Bool.and_eq_true, decide_eq_true_eq] at h
  exact ⟨isNum_t h.1.2, h.1.1, h.2⟩
theorem isRatio_mk {n d : Int} (h1 : -400000000 ≤ n ∧ n ≤ 400000000) (h2 : 1 ≤ d ∧ d ≤ 400000000) (h3 : Int.gcd n d = 1) : isRatio n d = true := by
  simp only [isRatio, Bool.and_eq_true, decide_eq_true_eq]
  exact ⟨⟨h2, isNum_mk h1⟩, h3⟩
theorem isRatio_no1 {n d : Int} (h : ¬ (1 ≤ d ∧ d ≤ 400000000)) : isRatio n d = false := by simp only [isRatio, decide_eq_false h, Bool.false_and]
theorem isRatio_no2 {n d : Int} (h : isNum n = false) : isRatio n d = false := by simp [isRatio, h]
theorem isRatio_fin {n d : Int} (h1 : 1 ≤ d ∧ d ≤ 400000000) (h2 : isNum n = true) : isRatio n d = ((Int.gcd n d : Int) == 1) := by
  simp only [isRatio, decide_eq_true h1, h2, Bool.true_and]
  rw [Bool.eq_iff_iff]; simp only [decide_eq_true_eq, beq_iff_eq]; omega

/-- A fraction in lowest terms; (0, 0) where there is none. -/
def lowN (n d : Int) : Int := (if d < 0 then -n else n) / (Int.gcd n d : Int)
def lowD (n d : Int) : Int := (if d < 0 then -d else d) / (Int.gcd n d : Int)
def lowOk (n d : Int) : Bool := (d != 0) && isRatio (lowN n d) (lowD n d)
def low (n d : Int) : Int × Int := if lowOk n d = true then (lowN n d, lowD n d) else (0, 0)

theorem gcd_pos {n d : Int} (h : d ≠ 0) : 1 ≤ (Int.gcd n d : Int) := by
  have : Int.gcd n d ≠ 0 := by rw [Ne, Int.gcd_eq_zero_iff]; omega
  omega
/-- What the walks of the two makers want to know. -/
theorem low_facts {n d : Int} (h : d ≠ 0) (h1 : -9223372036854775807 ≤ n) (h2 : n ≤ 9223372036854775807) (h3 : -9223372036854775807 ≤ d) (h4 : d ≤ 9223372036854775807) :
    ∃ g n' d' : Int, (Int.gcd n d : Int) = g ∧ 1 ≤ g ∧ g ≤ 9223372036854775807 ∧ lowN n d = n' ∧ lowD n d = d' ∧
      -9223372036854775807 ≤ n' ∧ n' ≤ 9223372036854775807 ∧ 1 ≤ d' ∧ d' ≤ 9223372036854775807 ∧
      (d < 0 → n.tdiv (-g) = n' ∧ d.tdiv (-g) = d' ∧ (-n).tdiv g = n' ∧ (-d).tdiv g = d') ∧ (0 < d → n.tdiv g = n' ∧ d.tdiv g = d') := by
  have hg := gcd_pos (n := n) h
  have hgn : (Int.gcd n d : Int) ∣ n := Int.gcd_dvd_left ..
  have hgd : (Int.gcd n d : Int) ∣ d := Int.gcd_dvd_right ..
  obtain ⟨x, hx⟩ := hgn
  obtain ⟨y, hy⟩ := hgd
  generalize hG : (Int.gcd n d : Int) = g at *
  have hle : g ≤ 9223372036854775807 := by
    have h5 : (Int.gcd n d) ≤ d.natAbs := Nat.le_of_dvd (by omega) (Nat.gcd_dvd_right n.natAbs d.natAbs)
    omega
  have hgx : ∀ z : Int, (g * z).tdiv g = z := fun z => Int.mul_tdiv_cancel_left _ (by omega)
  have hex : ∀ z : Int, (g * z) / g = z := fun z => Int.mul_ediv_cancel_left _ (by omega)
  have hxa : x.natAbs ≤ n.natAbs := by
    rw [hx, Int.natAbs_mul]; exact Nat.le_mul_of_pos_left _ (by omega)
  have hya : y.natAbs ≤ d.natAbs := by
    rw [hy, Int.natAbs_mul]; exact Nat.le_mul_of_pos_left _ (by omega)
  have hN : lowN n d = if d < 0 then -x else x := by
    unfold lowN; rw [hG]; split
    · rw [hx, show -(g * x) = g * (-x) from by rw [Int.mul_neg], hex]
    · rw [hx, hex]
  have hD : lowD n d = if d < 0 then -y else y := by
    unfold lowD; rw [hG]; split
    · rw [hy, show -(g * y) = g * (-y) from by rw [Int.mul_neg], hex]
    · rw [hy, hex]
  have hys : (d < 0 → y < 0) ∧ (0 < d → 0 < y) := by
    constructor
    · intro hh
      rcases Int.lt_trichotomy y 0 with h5 | h5 | h5
      · exact h5
      · rw [h5] at hy; omega
      · have := Int.mul_pos (show 0 < g by omega) h5; omega
    · intro hh
      rcases Int.lt_trichotomy y 0 with h5 | h5 | h5
      · have := Int.mul_neg_of_pos_of_neg (show 0 < g by omega) h5; omega
      · rw [h5] at hy; omega
      · exact h5
  refine ⟨g, _, _, rfl, hg, hle, hN, hD, by split <;> omega, by split <;> omega, by split <;> omega, by split <;> omega, ?_, ?_⟩
  · intro hneg
    simp only [if_pos hneg]
    refine ⟨?_, ?_, ?_, ?_⟩
    · rw [Int.tdiv_neg, hx, hgx]
    · rw [Int.tdiv_neg, hy, hgx]
    · rw [hx, show -(g * x) = g * (-x) from by rw [Int.mul_neg], hgx]
    · rw [hy, show -(g * y) = g * (-y) from by rw [Int.mul_neg], hgx]
  · intro hpos
    simp only [if_neg (show ¬ d < 0 by omega)]
    exact ⟨by rw [hx, hgx], by rw [hy, hgx]⟩

/-! The functions on pairs. -/
def makeR (n d : Int) : Int × Int := if isNum n = true ∧ isNum d = true then low n d else (0, 0)
def addR (a b c d : Int) : Int × Int := if isRatio a b = true ∧ isRatio c d = true then low (a * d + c * b) (b * d) else (0, 0)
def negR (a b : Int) : Int × Int := if isRatio a b = true then (-a, b) else (0, 0)
def mulR (a b c d : Int) : Int × Int := if isRatio a b = true ∧ isRatio c d = true then low (a * c) (b * d) else (0, 0)
def divR' (a b c d : Int) : Int × Int := if isRatio a b = true ∧ isRatio c d = true ∧ c ≠ 0 then low (a * d) (b * c) else (0, 0)
def cmpR (a b c d : Int) : Int := if isRatio a b = true ∧ isRatio c d = true then (if a * d < c * b then -1 else if c * b < a * d then 1 else 0) else 2
def floorR (a b : Int) : Int := if isRatio a b = true then a / b else 0
def roundR (a b : Int) : Int := if isRatio a b = true then (2 * a + b) / (2 * b) else 0
theorem low_zero (n : Int) : low n 0 = (0, 0) := by simp [low, lowOk]
/-- Products of two numbers within the limit. -/
theorem mul_in {a b : Int} (ha : -400000000 ≤ a ∧ a ≤ 400000000) (hb : -400000000 ≤ b ∧ b ≤ 400000000) : -160000000000000000 ≤ a * b ∧ a * b ≤ 160000000000000000 := by
  have h : (a * b).natAbs ≤ 160000000000000000 := by
    rw [Int.natAbs_mul]; exact Nat.mul_le_mul (show a.natAbs ≤ 400000000 by omega) (show b.natAbs ≤ 400000000 by omega)
  omega
end Go.Proofs.Ytkoopheikdbliaa
