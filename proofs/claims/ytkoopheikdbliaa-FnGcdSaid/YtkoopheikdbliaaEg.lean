/- Euclid's extended algorithm in plain maths: what both texts compute, and that it combines. -/
import Derived.Test.YtkoopheikdbliaaNum
namespace Go.Proofs.Ytkoopheikdbliaa
open Go.RowKit
set_option linter.unusedSimpArgs false
set_option linter.unusedVariables false

/-- The rounds: (g, x, y) and (h, u, v); the cofactors wrap. -/
def eg : Nat → Int → Int → Int → Int → Int → Int → Int × Int × Int
  | 0, g, x, y, _, _, _ => (g, x, y)
  | f + 1, g, x, y, h, u, v => if h = 0 then (g, x, y) else eg f h u v (g.tmod h) (wrap64 (x - wrap64 (g.tdiv h * u))) (wrap64 (y - wrap64 (g.tdiv h * v)))
theorem eg_zero (f : Nat) (g x y u v : Int) : eg f g x y 0 u v = (g, x, y) := by cases f <;> simp [eg]
theorem eg_step (f : Nat) (g x y h u v : Int) (hh : h ≠ 0) : eg (f + 1) g x y h u v = eg f h u v (g.tmod h) (wrap64 (x - wrap64 (g.tdiv h * u))) (wrap64 (y - wrap64 (g.tdiv h * v))) := by
  rw [eg, if_neg hh]
def egAll (a b : Int) : Int × Int × Int := eg b.natAbs a 1 0 b 0 1
/-- With the sign turned. -/
def egFin (p : Int × Int × Int) : Int × Int × Int := if p.1 < 0 then (-p.1, wrap64 (-p.2.1), wrap64 (-p.2.2)) else p
def egIn (a b : Int) : Bool := isNum a && isNum b
def egRes (a b : Int) : Int × Int × Int := if egIn a b = true then egFin (egAll a b) else (0, 0, 0)

theorem wrap_dvd (n : Int) : (18446744073709551616 : Int) ∣ wrap64 n - n := by
  unfold wrap64
  have := Int.mul_ediv_add_emod (n + 9223372036854775808) 18446744073709551616
  exact ⟨-((n + 9223372036854775808) / 18446744073709551616), by omega⟩
theorem wrap_of_dvd {n g : Int} (h : (18446744073709551616 : Int) ∣ n - g) (h1 : -9223372036854775808 ≤ g) (h2 : g ≤ 9223372036854775807) : wrap64 n = g := by
  obtain ⟨k, hk⟩ := h
  unfold wrap64
  omega
theorem wrap_in (n : Int) : -9223372036854775808 ≤ wrap64 n ∧ wrap64 n ≤ 9223372036854775807 := by unfold wrap64; omega
theorem tdiv_mul_in (g h : Int) : (g.tdiv h * h).natAbs ≤ g.natAbs := by
  have h1 := Int.mul_tdiv_add_tmod g h
  have h2 := tmod_sign g h
  by_cases hh : h = 0
  · subst hh; simp
  · rw [Int.natAbs_mul, Int.natAbs_tdiv]
    exact Nat.div_mul_le_self _ _

/-- What the rounds keep. -/
theorem eg_spec (a b : Int) : ∀ (f : Nat) (g x y h u v : Int), h.natAbs ≤ f → (18446744073709551616 : Int) ∣ a * x + b * y - g → (18446744073709551616 : Int) ∣ a * u + b * v - h →
    (eg f g x y h u v).1.natAbs = Int.gcd g h ∧ (18446744073709551616 : Int) ∣ a * (eg f g x y h u v).2.1 + b * (eg f g x y h u v).2.2 - (eg f g x y h u v).1 := by
  intro f
  induction f with
  | zero =>
    intro g x y h u v hf h1 h2
    have : h = 0 := by omega
    subst this
    exact ⟨by simp [eg], h1⟩
  | succ f ih =>
    intro g x y h u v hf h1 h2
    by_cases hh : h = 0
    · subst hh
      rw [eg_zero]
      exact ⟨by simp, h1⟩
    · rw [eg_step f g x y h u v hh]
      have hlt := tmod_lt g h hh
      have h3 := ih h u v (g.tmod h) (wrap64 (x - wrap64 (g.tdiv h * u))) (wrap64 (y - wrap64 (g.tdiv h * v))) (by omega) h2 (by
        have e1 := wrap_dvd (x - wrap64 (g.tdiv h * u))
        have e2 := wrap_dvd (g.tdiv h * u)
        have e3 := wrap_dvd (y - wrap64 (g.tdiv h * v))
        have e4 := wrap_dvd (g.tdiv h * v)
        have e5 := Int.mul_tdiv_add_tmod g h
        generalize wrap64 (x - wrap64 (g.tdiv h * u)) = X at *
        generalize wrap64 (g.tdiv h * u) = X0 at *
        generalize wrap64 (y - wrap64 (g.tdiv h * v)) = Y at *
        generalize wrap64 (g.tdiv h * v) = Y0 at *
        generalize g.tdiv h = q at *
        generalize g.tmod h = r at *
        obtain ⟨k1, e1⟩ := e1
        obtain ⟨k2, e2⟩ := e2
        obtain ⟨k3, e3⟩ := e3
        obtain ⟨k4, e4⟩ := e4
        obtain ⟨k5, h1⟩ := h1
        obtain ⟨k6, h2⟩ := h2
        refine ⟨a * k1 - a * k2 + b * k3 - b * k4 + k5 - q * k6, ?_⟩
        grind)
      exact ⟨h3.1.trans (gcd_tmod g h), h3.2⟩
theorem egAll_spec (a b : Int) : (egAll a b).1.natAbs = Int.gcd a b ∧ (18446744073709551616 : Int) ∣ a * (egAll a b).2.1 + b * (egAll a b).2.2 - (egAll a b).1 :=
  eg_spec a b b.natAbs a 1 0 b 0 1 (Nat.le_refl _) ⟨0, by omega⟩ ⟨0, by omega⟩
/-- Bézout, as the machine reckons. -/
theorem egRes_spec {a b : Int} (ha : isNum a = true) (hb : isNum b = true) :
    (egRes a b).1 = (Int.gcd a b : Int) ∧ wrap64 (wrap64 (a * (egRes a b).2.1) + wrap64 (b * (egRes a b).2.2)) = (egRes a b).1 := by
  have h := egAll_spec a b
  have hA := isNum_t ha
  have hB := isNum_t hb
  have hg : Int.gcd a b ≤ 400000000 := by
    by_cases h0 : a = 0
    · subst h0; rw [Int.gcd, Int.natAbs_zero, Nat.gcd_zero_left]; omega
    · have := Nat.le_of_dvd (show 0 < a.natAbs by omega) (Nat.gcd_dvd_left a.natAbs b.natAbs)
      rw [Int.gcd]; omega
  rw [egRes, if_pos (by simp [egIn, ha, hb])]
  generalize egAll a b = p at *
  obtain ⟨g, x, y⟩ := p
  obtain ⟨h1, h2⟩ := h
  simp only at h1 h2
  have key : ∀ (g x y : Int), (18446744073709551616 : Int) ∣ a * x + b * y - g → -9223372036854775808 ≤ g → g ≤ 9223372036854775807 → wrap64 (wrap64 (a * x) + wrap64 (b * y)) = g := by
    intro g x y h3 h4 h5
    refine wrap_of_dvd ?_ h4 h5
    obtain ⟨k1, e1⟩ := wrap_dvd (a * x)
    obtain ⟨k2, e2⟩ := wrap_dvd (b * y)
    obtain ⟨k3, e3⟩ := h3
    exact ⟨k1 + k2 + k3, by omega⟩
  unfold egFin
  by_cases hn : g < 0
  · rw [if_pos hn]
    refine ⟨by simp only; omega, key _ _ _ ?_ (by simp only; omega) (by simp only; omega)⟩
    simp only
    obtain ⟨k1, e1⟩ := wrap_dvd (-x)
    obtain ⟨k2, e2⟩ := wrap_dvd (-y)
    obtain ⟨k3, e3⟩ := h2
    refine ⟨a * k1 + b * k2 - k3, ?_⟩
    generalize wrap64 (-x) = X at *
    generalize wrap64 (-y) = Y at *
    grind
  · rw [if_neg hn]
    exact ⟨by simp only; omega, key _ _ _ h2 (by simp only; omega) (by simp only; omega)⟩
end Go.Proofs.Ytkoopheikdbliaa
