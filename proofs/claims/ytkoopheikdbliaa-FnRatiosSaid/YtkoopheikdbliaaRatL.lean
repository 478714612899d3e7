/- Plain laws of ratios: sums and products in any order, what undoes them, how they round. -/
import Derived.Test.YtkoopheikdbliaaRat
namespace Go.Proofs.Ytkoopheikdbliaa
open Go.RowKit
set_option linter.unusedSimpArgs false
set_option linter.unusedVariables false

theorem low_parts {n d : Int} (hd : d ≠ 0) : Int.gcd (lowN n d) (lowD n d) = 1 ∧ 0 < lowD n d ∧ lowN n d * d = n * lowD n d := by
  have hg := gcd_pos (n := n) hd
  have h1 : Int.gcd (n / (Int.gcd n d : Int)) (d / (Int.gcd n d : Int)) = 1 := Int.gcd_ediv_gcd_ediv_gcd (by omega)
  obtain ⟨x, hx⟩ : (Int.gcd n d : Int) ∣ n := Int.gcd_dvd_left ..
  obtain ⟨y, hy⟩ : (Int.gcd n d : Int) ∣ d := Int.gcd_dvd_right ..
  unfold lowN lowD
  generalize hG : (Int.gcd n d : Int) = g at *
  have hex : ∀ z : Int, (g * z) / g = z := fun z => Int.mul_ediv_cancel_left _ (by omega)
  have e1 : n / g = x := by rw [hx, hex]
  have e2 : d / g = y := by rw [hy, hex]
  rw [e1, e2] at h1
  by_cases hn : d < 0
  · rw [if_pos hn, if_pos hn]
    have e3 : -n / g = -x := by rw [hx, ← Int.mul_neg, hex]
    have e4 : -d / g = -y := by rw [hy, ← Int.mul_neg, hex]
    rw [e3, e4]
    refine ⟨by rw [Int.gcd_neg, Int.neg_gcd]; exact h1, ?_, ?_⟩
    · rcases Int.lt_trichotomy y 0 with h5 | h5 | h5
      · omega
      · rw [h5] at hy; omega
      · have := Int.mul_pos (show 0 < g by omega) h5; omega
    · rw [hx, hy]; grind
  · rw [if_neg hn, if_neg hn, e1, e2]
    refine ⟨h1, ?_, ?_⟩
    · rcases Int.lt_trichotomy y 0 with h5 | h5 | h5
      · have := Int.mul_neg_of_pos_of_neg (show 0 < g by omega) h5; omega
      · rw [h5] at hy; omega
      · exact h5
    · rw [hx, hy]; grind
/-- Lowest terms are the only ones. -/
theorem low_uniq {a b c d : Int} (h1 : Int.gcd a b = 1) (h2 : Int.gcd c d = 1) (hb : 0 < b) (hd : 0 < d) (h : a * d = c * b) : a = c ∧ b = d := by
  have h3 : b.natAbs ∣ d.natAbs := by
    have : b.natAbs ∣ a.natAbs * d.natAbs := by rw [← Int.natAbs_mul, h, Int.natAbs_mul]; exact Nat.dvd_mul_left _ _
    exact Nat.Coprime.dvd_of_dvd_mul_left (k := b.natAbs) (m := a.natAbs) (by rw [Nat.Coprime, Nat.gcd_comm]; exact h1) this
  have h4 : d.natAbs ∣ b.natAbs := by
    have : d.natAbs ∣ c.natAbs * b.natAbs := by rw [← Int.natAbs_mul, ← h, Int.natAbs_mul]; exact Nat.dvd_mul_left _ _
    exact Nat.Coprime.dvd_of_dvd_mul_left (k := d.natAbs) (m := c.natAbs) (by rw [Nat.Coprime, Nat.gcd_comm]; exact h2) this
  have h5 := Nat.dvd_antisymm h3 h4
  have h6 : b = d := by omega
  subst h6
  exact ⟨Int.eq_of_mul_eq_mul_right (by omega) h, rfl⟩
theorem low_of {a b n d : Int} (hr : isRatio a b = true) (hd : d ≠ 0) (h : a * d = n * b) : low n d = (a, b) := by
  obtain ⟨h1, h2, h3⟩ := low_parts (n := n) hd
  obtain ⟨g1, g2, g3⟩ := isRatio_t hr
  have h4 : lowN n d * b = a * lowD n d := by
    have : d * (lowN n d * b) = d * (a * lowD n d) := by
      have e1 : d * (lowN n d * b) = (lowN n d * d) * b := by grind
      have e2 : d * (a * lowD n d) = (a * d) * lowD n d := by grind
      rw [e1, e2, h3, h]; grind
    exact Int.eq_of_mul_eq_mul_left hd this
  obtain ⟨e1, e2⟩ := low_uniq h1 g3 h2 (by omega) h4
  have h5 : lowOk n d = true := by simp [lowOk, hd, e1, e2, hr]
  rw [low, if_pos h5, e1, e2]
theorem not_ratio : isRatio 0 0 = false := by decide
theorem low_cross {n d : Int} (h : isRatio (low n d).1 (low n d).2 = true) : d ≠ 0 ∧ (low n d).1 * d = n * (low n d).2 := by
  unfold low at h ⊢
  split at h
  · rename_i h1
    simp only [lowOk, Bool.and_eq_true, bne_iff_ne] at h1
    rw [if_pos (by simp [lowOk, h1])]
    exact ⟨h1.1, (low_parts h1.1).2.2⟩
  · rw [not_ratio] at h; cases h

theorem addR_comm (a b c d : Int) : addR a b c d = addR c d a b := by
  unfold addR
  rw [Int.add_comm (a * d), Int.mul_comm b d]
  simp only [and_comm]
theorem mulR_comm (a b c d : Int) : mulR a b c d = mulR c d a b := by
  unfold mulR
  rw [Int.mul_comm a c, Int.mul_comm b d]
  simp only [and_comm]
theorem add_undone {a b c d : Int} (h : isRatio (addR a b c d).1 (addR a b c d).2 = true) : addR (addR a b c d).1 (addR a b c d).2 (negR c d).1 (negR c d).2 = (a, b) := by
  by_cases hr : isRatio a b = true ∧ isRatio c d = true
  · have he : addR a b c d = low (a * d + c * b) (b * d) := by rw [addR, if_pos hr]
    rw [he] at h ⊢
    obtain ⟨h1, h2⟩ := low_cross h
    have hn : negR c d = (-c, d) := by rw [negR, if_pos hr.2]
    obtain ⟨g1, g2, g3⟩ := isRatio_t hr.1
    obtain ⟨k1, k2, k3⟩ := isRatio_t hr.2
    obtain ⟨m1, m2, m3⟩ := isRatio_t h
    have hn2 : isRatio (-c) d = true := isRatio_mk (by omega) k2 (by rw [Int.neg_gcd]; exact k3)
    rw [hn]
    generalize low (a * d + c * b) (b * d) = p at *
    obtain ⟨s, t⟩ := p
    simp only at h h2 m1 m2 ⊢
    rw [addR, if_pos ⟨h, hn2⟩]
    refine low_of hr.1 (Int.mul_ne_zero (by omega) (by omega)) ?_
    grind
  · have he : addR a b c d = (0, 0) := by rw [addR, if_neg hr]
    rw [he, not_ratio] at h; cases h
theorem div_undone {a b c d : Int} (h : isRatio (divR' a b c d).1 (divR' a b c d).2 = true) : mulR (divR' a b c d).1 (divR' a b c d).2 c d = (a, b) := by
  by_cases hr : isRatio a b = true ∧ isRatio c d = true ∧ c ≠ 0
  · have he : divR' a b c d = low (a * d) (b * c) := by rw [divR', if_pos hr]
    rw [he] at h ⊢
    obtain ⟨h1, h2⟩ := low_cross h
    obtain ⟨g1, g2, g3⟩ := isRatio_t hr.1
    obtain ⟨k1, k2, k3⟩ := isRatio_t hr.2.1
    obtain ⟨m1, m2, m3⟩ := isRatio_t h
    generalize low (a * d) (b * c) = p at *
    obtain ⟨s, t⟩ := p
    simp only at h h2 m1 m2 ⊢
    rw [mulR, if_pos ⟨h, hr.2.1⟩]
    refine low_of hr.1 (Int.mul_ne_zero (by omega) (by omega)) ?_
    grind
  · have he : divR' a b c d = (0, 0) := by rw [divR', if_neg hr]
    rw [he, not_ratio] at h; cases h
theorem cmp_law (a b c d : Int) : (cmpR a b c d = 2 ∧ cmpR c d a b = 2) ∨ (cmpR a b c d = - cmpR c d a b ∧ (-1 ≤ cmpR a b c d ∧ cmpR a b c d ≤ 1) ∧ (cmpR a b c d = 0 ↔ (a = c ∧ b = d))) := by
  by_cases hr : isRatio a b = true ∧ isRatio c d = true
  · right
    obtain ⟨g1, g2, g3⟩ := isRatio_t hr.1
    obtain ⟨k1, k2, k3⟩ := isRatio_t hr.2
    rw [cmpR, if_pos hr, cmpR, if_pos hr.symm]
    have hu : a * d = c * b → a = c ∧ b = d := fun h => low_uniq g3 k3 (by omega) (by omega) h
    rcases Int.lt_trichotomy (a * d) (c * b) with h | h | h
    · rw [if_pos h, if_neg (by omega), if_pos h]
      refine ⟨by omega, by omega, fun e => by omega, fun e => ?_⟩
      rw [e.1, e.2] at h; omega
    · rw [if_neg (by omega), if_neg (by omega), if_neg (by omega), if_neg (by omega)]
      exact ⟨by omega, by omega, fun _ => hu h, fun _ => rfl⟩
    · rw [if_neg (by omega), if_pos h, if_pos h]
      refine ⟨by omega, by omega, fun e => by omega, fun e => ?_⟩
      rw [e.1, e.2] at h; omega
  · left
    rw [cmpR, if_neg hr, cmpR, if_neg (fun h => hr h.symm)]
    exact ⟨rfl, rfl⟩
/-- How a ratio is rounded. -/
theorem round_law {n d : Int} (hd : 0 < d) : n / d * d ≤ n ∧ n < (n / d + 1) * d ∧ ((2 * n + d) / (2 * d) = n / d ∨ (2 * n + d) / (2 * d) = n / d + 1) ∧
    2 * (((2 * n + d) / (2 * d)) * d - n).natAbs ≤ d := by
  have h1 := Int.mul_ediv_add_emod n d
  have h2 := Int.emod_nonneg n (show d ≠ 0 by omega)
  have h3 := Int.emod_lt_of_pos n hd
  have h4 := Int.mul_ediv_add_emod (2 * n + d) (2 * d)
  have h5 := Int.emod_nonneg (2 * n + d) (show 2 * d ≠ 0 by omega)
  have h6 := Int.emod_lt_of_pos (2 * n + d) (show 0 < 2 * d by omega)
  generalize hq : n / d = q at *
  generalize hr : n % d = r at *
  generalize hQ : (2 * n + d) / (2 * d) = Q at *
  generalize hR : (2 * n + d) % (2 * d) = R at *
  have e1 : (q + 1) * d = d * q + d := by grind
  have e2 : 2 * d * Q = 2 * (d * Q) := by grind
  rw [e2] at h4
  rw [Int.mul_comm q d, e1, Int.mul_comm Q d]
  refine ⟨by omega, by omega, ?_, by omega⟩
  rcases Int.lt_trichotomy Q q with h | h | h
  · exfalso
    have : d * Q ≤ d * (q - 1) := Int.mul_le_mul_of_nonneg_left (by omega) (by omega)
    rw [Int.mul_sub] at this
    omega
  · exact .inl h
  · right
    rcases Int.lt_trichotomy Q (q + 1) with h' | h' | h'
    · omega
    · exact h'
    · exfalso
      have : d * (q + 2) ≤ d * Q := Int.mul_le_mul_of_nonneg_left (by omega) (by omega)
      rw [Int.mul_add] at this
      omega
end Go.Proofs.Ytkoopheikdbliaa
