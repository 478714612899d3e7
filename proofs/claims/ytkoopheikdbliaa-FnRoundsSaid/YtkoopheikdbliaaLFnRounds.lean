/- The walk of FnRounds. -/
import Derived.Test.YtkoopheikdbliaaDrawT
import Derived.Test.YtkoopheikdbliaaRatG
import Derived.Test.YtkoopheikdbliaaRatL
import Derived.IntWalk
import Derived.Deep.QuietTactic
import Derived.BigQuiet
namespace Go.Proofs.Ytkoopheikdbliaa
open Go.RowKit
set_option linter.unusedSimpArgs false
set_option linter.unusedVariables false
/-- What the walk wants to know of the numbers. -/
theorem rounds_facts {a b : Int} (h : isRatio a b = true) : ∃ n f p q m : Int, roundR a b = n ∧ floorR a b = f ∧ n * b = p ∧ f * b = q ∧ (f + 1) * b = q + b ∧ ((p - a).natAbs : Int) = m ∧
    (-400000000 ≤ a ∧ a ≤ 400000000) ∧ (1 ≤ b ∧ b ≤ 400000000) ∧ (-500000000 ≤ n ∧ n ≤ 500000000) ∧ (-500000000 ≤ f ∧ f ≤ 500000000) ∧ (-1000000000 ≤ p ∧ p ≤ 1000000000) ∧ (-1000000000 ≤ q ∧ q ≤ 1000000000) ∧
    2 * m ≤ b ∧ 0 ≤ m ∧ q ≤ a ∧ a < q + b ∧ (n = f ∨ n = f + 1) := by
  obtain ⟨h1, h2, _⟩ := isRatio_t h
  have hr := round_law (n := a) (d := b) (by omega)
  have e1 := roundR_yes h
  have e2 := floorR_yes h
  rw [e1, e2] at hr
  obtain ⟨r1, r2, r3, r4⟩ := hr
  have r5 : (floorR a b + 1) * b = floorR a b * b + b := by rw [Int.add_mul, Int.one_mul]
  have hf : (floorR a b).natAbs ≤ a.natAbs + 1 := by rw [← e2]; exact (ediv_in a b (by omega)).1
  refine ⟨_, _, _, _, _, rfl, rfl, rfl, rfl, r5, rfl, h1, h2, ?_, ?_, ?_, ?_, ?_, ?_, ?_, ?_, r3⟩
  all_goals omega
set_option maxHeartbeats 4000000 in
theorem walkFnRounds (A : Option Addr) (n cap : Nat) (xs : List Int) (w : World) (hs : SlBArg w A n cap xs) :
    Calls Try.prog 7 #[.slice A n cap] w fun e w' => e = .returned (.bool true) ∧ Below w.heap.size w w' := by
  obtain ⟨hx, hm, hs⟩ := hs
  clear hx
  unfold maxLen at hm
  by_cases hn : n ≤ 1048576
  · have HS := hide hs; clear hs
    go_enter Try.func7, Try.ntmps7
    go_wp2_with fail
    refine (lawBig_no A n cap _ hn).mono ?_; rintro e w0 ⟨rfl, rfl⟩
    go_wp2_with fail
    refine (drawRound A n cap _ HS.out hn).mono ?_; rintro e w1 ⟨⟨a, b, rfl, ha, hb⟩, hB⟩
    have HB := hide hB; clear hB
    rcases Bool.eq_false_or_eq_true (isRatio a b) with hr | hr
    · obtain ⟨r, f, p, q, m, e1, e2, e3, e4, e5, e6, g1, g2, g3, g4, g5, g6, g7, g8, g9, g10, g11⟩ := rounds_facts hr
      have ci := fun w => implRoundRatio a b w
      have cf := fun w => implFloorRatio a b w
      have cr := fun w => specIsRatio a b w
      rw [e1] at ci
      rw [e2] at cf
      rw [hr] at cr
      have CI := hide ci
      have CF := hide cf
      have CR := hide cr
      have CA := hide (fun w => lawAbs_at (p - a) m e6 w (by omega) (by omega))
      clear ci cf cr e1 e2 hr e6
      go_wp2_with fail
      refine (CI.out _).mono ?_; rintro e w2 ⟨rfl, hb2⟩
      have HB2 : Hid (Below w.heap.size w w2) := HB.out.alloc HB.out.size _ |>.trans (hb2.mono (by have := HB.out.size; simp; omega))
      have B2 := hide ((Box2.new (x := .int .i64 a) (y := .int .i64 b) w1 w1.heap.size 24 rfl).call hb2); clear hb2
      obtain ⟨⟨c0, c1⟩, _⟩ := B2.out
      go_wp2_with fail
      refine (CF.out _).mono ?_; rintro e w3 ⟨rfl, hb3⟩
      have HB3 := hide (kb_call HB2.out (Nat.le_refl _) hb3)
      have B3 := hide (B2.out.call hb3); clear hb3 c0 c1
      obtain ⟨⟨c0, c1⟩, _⟩ := B3.out
      go_wp2_with fail
      refine (CR.out _).mono ?_; rintro e w4 ⟨rfl, hb4⟩
      have HB4 := hide (kb_call HB3.out (Nat.le_refl _) hb4)
      have B4 := hide (B3.out.call hb4); clear hb4 c0 c1
      obtain ⟨⟨c0, c1⟩, _⟩ := B4.out
      go_wp2_with fail
      have k1 : IntKind.i64.wrap (r * b) = p := by rw [e3]; exact IntWalk.i64_in _ (by omega)
      have k2 : IntKind.i64.wrap (p - a) = p - a := IntWalk.i64_in _ (by omega)
      have k3 : IntKind.i64.wrap (2 * m) = 2 * m := IntWalk.i64_in _ (by omega)
      have k4 : IntKind.i64.wrap (f * b) = q := by rw [e4]; exact IntWalk.i64_in _ (by omega)
      have k5 : IntKind.i64.wrap (f + 1) = f + 1 := IntWalk.i64_in _ (by omega)
      have k6 : IntKind.i64.wrap ((f + 1) * b) = q + b := by rw [e5]; exact IntWalk.i64_in _ (by omega)
      have d1 : decide (2 * m ≤ b) = true := decide_eq_true g7
      have d2 : decide (q ≤ a) = true := decide_eq_true g9
      have d3 : decide (a < q + b) = true := decide_eq_true g10
      rcases g11 with g11 | g11
      · have d4 : (r == f) = true := by simpa using g11
        clear g11 e3 e4 e5
        go_quiet ((go_at_call 26; exact Calls.quiet_of_same ((CA.out _).mono fun _ _ ⟨h1, h2⟩ => ⟨h1, h2.symm⟩)))
        go_wp2
        go_returns
        exact ⟨rfl, below_drewN HB4.out _⟩
      · have d4 : (r == f) = false := by simp; omega
        have d5 : (r == f + 1) = true := by simpa using g11
        clear g11 e3 e4 e5
        go_quiet ((go_at_call 26; exact Calls.quiet_of_same ((CA.out _).mono fun _ _ ⟨h1, h2⟩ => ⟨h1, h2.symm⟩)))
        go_wp2
        go_returns
        exact ⟨rfl, below_drewN HB4.out _⟩
    · have e1 : roundR a b = 0 := by simp [roundR, hr]
      have e2 : floorR a b = 0 := by simp [floorR, hr]
      have ci := fun w => implRoundRatio a b w
      have cf := fun w => implFloorRatio a b w
      have cr := fun w => specIsRatio a b w
      rw [e1] at ci
      rw [e2] at cf
      rw [hr] at cr
      have CI := hide ci
      have CF := hide cf
      have CR := hide cr
      clear ci cf cr e1 e2 hr
      go_wp2_with fail
      refine (CI.out _).mono ?_; rintro e w2 ⟨rfl, hb2⟩
      have HB2 : Hid (Below w.heap.size w w2) := HB.out.alloc HB.out.size _ |>.trans (hb2.mono (by have := HB.out.size; simp; omega))
      have B2 := hide ((Box2.new (x := .int .i64 a) (y := .int .i64 b) w1 w1.heap.size 24 rfl).call hb2); clear hb2
      obtain ⟨⟨c0, c1⟩, _⟩ := B2.out
      go_wp2_with fail
      refine (CF.out _).mono ?_; rintro e w3 ⟨rfl, hb3⟩
      have HB3 := hide (kb_call HB2.out (Nat.le_refl _) hb3)
      have B3 := hide (B2.out.call hb3); clear hb3 c0 c1
      obtain ⟨⟨c0, c1⟩, _⟩ := B3.out
      go_wp2_with fail
      refine (CR.out _).mono ?_; rintro e w4 ⟨rfl, hb4⟩
      have HB4 := hide (kb_call HB3.out (Nat.le_refl _) hb4)
      clear hb4 c0 c1
      go_wp2
      go_returns
      exact ⟨rfl, HB4.out⟩
  · go_enter Try.func7, Try.ntmps7
    go_wp2_with fail
    refine (lawBig_yes A n cap _ (by omega) (by omega)).mono ?_; rintro e w0 ⟨rfl, rfl⟩
    go_wp2
    go_returns
    exact ⟨rfl, Below.refl _ _⟩
end Go.Proofs.Ytkoopheikdbliaa
