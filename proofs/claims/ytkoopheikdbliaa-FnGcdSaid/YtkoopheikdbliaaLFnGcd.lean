/- The walk of FnGcd. -/
import Derived.Test.YtkoopheikdbliaaDrawT
import Derived.Test.YtkoopheikdbliaaEgW
namespace Go.Proofs.Ytkoopheikdbliaa
open Go.RowKit
set_option linter.unusedSimpArgs false
set_option linter.unusedVariables false
theorem gcdOf_comm (a b : Int) : gcdOf a b = gcdOf b a := by
  unfold gcdOf
  rw [Int.gcd_comm]
  by_cases h : isNum a = true ∧ isNum b = true
  · rw [if_pos h, if_pos h.symm]
  · rw [if_neg h, if_neg (fun x => h x.symm)]
/-- What the walk wants to know of the numbers. -/
theorem gcd_facts {a b : Int} (h : egIn a b = true) : ∃ g x y : Int, egRes a b = (g, x, y) ∧ gcdOf a b = g ∧ wrap64 (wrap64 (a * x) + wrap64 (b * y)) = g ∧ (0 ≤ g ∧ g ≤ 400000000) ∧ (g = 0 → a = 0 ∧ b = 0) ∧ (0 < g → a.tmod g = 0 ∧ b.tmod g = 0) ∧
    (-400000000 ≤ a ∧ a ≤ 400000000) ∧ (-400000000 ≤ b ∧ b ≤ 400000000) := by
  simp only [egIn, Bool.and_eq_true] at h
  obtain ⟨ha, hb⟩ := h
  have h1 := egRes_spec ha hb
  have hA := isNum_t ha
  have hB := isNum_t hb
  have hg : gcdOf a b = (Int.gcd a b : Int) := by rw [gcdOf, if_pos ⟨ha, hb⟩]
  have hgl : Int.gcd a b ≤ 400000000 := by
    by_cases h0 : a = 0
    · subst h0; rw [Int.gcd, Int.natAbs_zero, Nat.gcd_zero_left]; omega
    · have := Nat.le_of_dvd (show 0 < a.natAbs by omega) (Nat.gcd_dvd_left a.natAbs b.natAbs)
      rw [Int.gcd]; omega
  generalize egRes a b = p at *
  obtain ⟨g, x, y⟩ := p
  simp only at h1
  refine ⟨g, x, y, rfl, by rw [hg, h1.1], h1.2, by rw [h1.1]; omega, ?_, ?_, hA, hB⟩
  · intro h0
    rw [h1.1] at h0
    have : Int.gcd a b = 0 := by omega
    rwa [Int.gcd_eq_zero_iff] at this
  · intro _
    rw [h1.1]
    exact ⟨Int.tmod_eq_zero_of_dvd (Int.gcd_dvd_left ..), Int.tmod_eq_zero_of_dvd (Int.gcd_dvd_right ..)⟩
set_option maxHeartbeats 2000000 in
theorem walkFnGcd (A : Option Addr) (n cap : Nat) (xs : List Int) (w : World) (hs : SlBArg w A n cap xs) :
    Calls Try.prog 6 #[.slice A n cap] w fun e w' => e = .returned (.bool true) ∧ Below w.heap.size w w' := by
  obtain ⟨hx, hm, hs⟩ := hs
  clear hx
  unfold maxLen at hm
  by_cases hn : n ≤ 1048576
  · have HS := hide hs; clear hs
    go_enter Try.func6, Try.ntmps6
    go_wp2_with fail
    refine (lawBig_no A n cap _ hn).mono ?_; rintro e w0 ⟨rfl, rfl⟩
    go_wp2_with fail
    refine (drawGcd A n cap _ HS.out hn).mono ?_; rintro e w1 ⟨⟨a, b, rfl, ha, hb⟩, hB⟩
    have HB := hide hB; clear hB
    have cs := fun w => specEgcd a b w
    have ci := fun w => implEgcd a b w
    have ca := fun w => implGcdOf a b w
    have cb := fun w => implGcdOf b a w
    rw [← gcdOf_comm a b] at cb
    unfold egV at cs ci
    rcases Bool.eq_false_or_eq_true (egIn a b) with hi | hi
    · obtain ⟨g, x, y, e1, e2, e3, hg, h0, h1, hA, hB⟩ := gcd_facts hi
      rw [hi, e1] at cs ci
      rw [e2] at ca cb
      have CS : Hid (∀ w, Calls Try.prog 20 #[.int .i64 a, .int .i64 b] w fun e w' => e = .returned (.tuple #[.int .i64 g, .int .i64 x, .int .i64 y, .bool true]) ∧ w = w') := cs
      have CI : Hid (∀ w, Calls Try.prog 19 #[.int .i64 a, .int .i64 b] w fun e w' => e = .returned (.tuple #[.int .i64 g, .int .i64 x, .int .i64 y, .bool true]) ∧ Below w.heap.size w w') := ci
      have CA := hide ca
      have CB := hide cb
      have k1 : IntKind.i64.wrap (a * x) = wrap64 (a * x) := IntWalk.i64_left _
      have k2 : IntKind.i64.wrap (b * y) = wrap64 (b * y) := IntWalk.i64_left _
      have k3 : IntKind.i64.wrap (wrap64 (a * x) + wrap64 (b * y)) = g := by rw [← e3]; exact IntWalk.i64_left _
      have d1 : (g != g) = false := by simp
      clear cs ci ca cb e1 e2 e3 hi
      by_cases hz : g = 0
      · obtain ⟨rfl, rfl⟩ := h0 hz
        subst hz
        clear h0 h1
        go_wp2_with fail
        refine (CI.out _).mono ?_; rintro e w2 ⟨rfl, hb2⟩
        have HB2 := hide (kb_call HB.out (Nat.le_refl _) hb2); clear hb2
        go_wp2_with fail
        refine (CS.out _).mono ?_; rintro e w2 ⟨rfl, rfl⟩
        go_wp2_with fail
        refine (CA.out _).mono ?_; rintro e w3 ⟨rfl, m3, rfl⟩
        go_wp2_with fail
        refine (CB.out _).mono ?_; rintro e w4 ⟨rfl, m4, rfl⟩
        go_wp2
        go_returns
        exact ⟨rfl, below_drewN HB2.out _⟩
      · obtain ⟨r1, r2⟩ := h1 (by omega)
        have z1 : (g == 0) = false := by simpa using hz
        have z2 : decide (0 < g) = true := decide_eq_true (by omega)
        clear h0 h1
        go_wp2_with fail
        refine (CI.out _).mono ?_; rintro e w2 ⟨rfl, hb2⟩
        have HB2 := hide (kb_call HB.out (Nat.le_refl _) hb2); clear hb2
        go_wp2_with fail
        refine (CS.out _).mono ?_; rintro e w2 ⟨rfl, rfl⟩
        go_wp2_with fail
        refine (CA.out _).mono ?_; rintro e w3 ⟨rfl, m3, rfl⟩
        go_wp2_with fail
        refine (CB.out _).mono ?_; rintro e w4 ⟨rfl, m4, rfl⟩
        go_wp2
        go_returns
        exact ⟨rfl, below_drewN HB2.out _⟩
    · have e1 := egRes_no hi
      have e2 : gcdOf a b = 0 := by
        rw [gcdOf, if_neg]
        intro h
        simp [egIn, h] at hi
      rw [hi, e1] at cs ci
      rw [e2] at ca
      have CS : Hid (∀ w, Calls Try.prog 20 #[.int .i64 a, .int .i64 b] w fun e w' => e = .returned (.tuple #[.int .i64 0, .int .i64 0, .int .i64 0, .bool false]) ∧ w = w') := cs
      have CI : Hid (∀ w, Calls Try.prog 19 #[.int .i64 a, .int .i64 b] w fun e w' => e = .returned (.tuple #[.int .i64 0, .int .i64 0, .int .i64 0, .bool false]) ∧ Below w.heap.size w w') := ci
      have CA := hide ca
      clear cs ci ca cb e1 e2 hi
      go_wp2_with fail
      refine (CI.out _).mono ?_; rintro e w2 ⟨rfl, hb2⟩
      have HB2 := hide (kb_call HB.out (Nat.le_refl _) hb2); clear hb2
      go_wp2_with fail
      refine (CS.out _).mono ?_; rintro e w2 ⟨rfl, rfl⟩
      go_wp2_with fail
      refine (CA.out _).mono ?_; rintro e w3 ⟨rfl, m3, rfl⟩
      go_wp2
      go_returns
      exact ⟨rfl, below_drewN HB2.out _⟩
  · go_enter Try.func6, Try.ntmps6
    go_wp2_with fail
    refine (lawBig_yes A n cap _ (by omega) (by omega)).mono ?_; rintro e w0 ⟨rfl, rfl⟩
    go_wp2
    go_returns
    exact ⟨rfl, Below.refl _ _⟩
end Go.Proofs.Ytkoopheikdbliaa
