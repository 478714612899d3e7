/- The walks of the other functions on ratios. -/
import Derived.Test.YtkoopheikdbliaaRatW
import Derived.Test.YtkoopheikdbliaaFloorW
namespace Go.Proofs.Ytkoopheikdbliaa
open Go.RowKit
set_option linter.unusedSimpArgs false
set_option linter.unusedVariables false

theorem implFloorDiv_at (n d q : Int) (hq : Hid (n / d = q)) (w : World) (h : -9223372036854775807 ≤ n) (h' : n ≤ 9223372036854775807) (h2 : 1 ≤ d) (h2' : d ≤ 9223372036854775807):
    Calls Try.prog 39 #[.int .i64 n, .int .i64 d] w fun e w' => e = .returned (.int .i64 q) ∧ ∃ k, w' = w.drewN k := by
  have hd := floor_spec n d (by omega)
  have hz' : (d == 0) = false := by simp; omega
  have hdn : decide (d < 0) = false := by simp; omega
  have hl := tmod_lt n d (by omega)
  have hsg := tmod_sign n d
  have htd := Int.natAbs_tdiv_le_natAbs n d
  have hq1 : -9223372036854775807 ≤ n.tdiv d := by omega
  have hq2 : n.tdiv d ≤ 9223372036854775807 := by omega
  by_cases hm : n.tmod d = 0
  · have em : (n.tmod d != 0) = false := by simpa using hm
    have em2 : (n.tmod d == 0) = true := by simpa using hm
    have HF : Hid (n.tdiv d = q) := by have := hq.out; rw [if_neg (by omega)] at hd; rw [Hid, hd, this]
    have HM := hide hm
    clear hd hm hsg hl htd
    go_enter Try.func39, Try.ntmps39
    go_wp2
    go_returns
    exact ⟨ret_int HF.out, 0, rfl⟩
  · have em : (n.tmod d != 0) = true := by simpa using hm
    have em2 : (n.tmod d == 0) = false := by simpa using hm
    by_cases hn : n < 0
    · have hdn' : decide (n < 0) = true := by simpa using hn
      have hq3 : -9223372036854775807 ≤ n.tdiv d - 1 := by
        by_cases e1 : d = 1
        · subst e1; simp at hm
        · have h5 : (n.tdiv d).natAbs = n.natAbs / d.natAbs := Int.natAbs_tdiv n d
          have : n.natAbs / d.natAbs ≤ n.natAbs / 2 := Nat.div_le_div_left (by omega) (by omega)
          omega
      have HF : Hid (n.tdiv d - 1 = q) := by have := hq.out; rw [if_pos (by omega)] at hd; rw [Hid, hd, this]
      clear hd hsg hl htd
      go_enter Try.func39, Try.ntmps39
      go_wp2
      go_returns
      exact ⟨ret_int HF.out, 0, rfl⟩
    · have hdn' : decide (n < 0) = false := by simpa using hn
      have em3 : (n % d != 0) = true := by rw [← Int.tmod_eq_emod_of_nonneg (show 0 ≤ n by omega)]; exact em
      have HF : Hid (n.tdiv d = q) := by have := hq.out; rw [if_neg (by omega)] at hd; rw [Hid, hd, this]
      clear hd hsg hl htd
      go_enter Try.func39, Try.ntmps39
      go_wp2
      go_returns
      exact ⟨ret_int HF.out, 0, rfl⟩

/-- The results under one name: a function of the parts and of whether it is a ratio. -/
theorem floorR_yes {a b : Int} (h : isRatio a b = true) : a / b = floorR a b := by simp [floorR, h]
theorem floorR_no {a b : Int} (h : isRatio a b = false) : floorR a b = 0 := by simp [floorR, h]
theorem roundR_yes {a b : Int} (h : isRatio a b = true) : (2 * a + b) / (2 * b) = roundR a b := by simp [roundR, h]
theorem roundR_no {a b : Int} (h : isRatio a b = false) : roundR a b = 0 := by simp [roundR, h]

theorem implNegateRatio (a b : Int) (w : World) :
    Calls Try.prog 28 #[rv a b] w fun e w' => e = .returned (rv (negR a b).1 (negR a b).2) ∧ Below w.heap.size w w' := by
  rcases Bool.eq_false_or_eq_true (isRatio a b) with h1 | h1
  · obtain ⟨ga, gb, _⟩ := isRatio_t h1
    have HL : Hid (negR a b = (-a, b)) := by simp [Hid, negR, h1]
    go_enter Try.func28, Try.ntmps28
    go_wp2_with (go_at_call 31; refine (implIsRatio _ _ _).mono ?_; rintro e w1 ⟨rfl, hb⟩; obtain ⟨hc, hf⟩ := bcell hb; have hz := hb.size; (try simp only [World.size_alloc, World.size_setCell, World.size_drew, size_drewN] at hz); (first | have hs := up3 hz | have hs := up2 hz | have hs := up1 hz | have hs := up0 hz); (try have q10 := hs _ q9); (try have q9 := hs _ q8); (try have q8 := hs _ q7); (try have q7 := hs _ q6); (try have q6 := hs _ q5); (try have q5 := hs _ q4); (try have q4 := hs _ q3); (try have q3 := hs _ q2); (try have q2 := hs _ q1); (try have p7 := hs _ p6); (try have p6 := hs _ p5); (try have p5 := hs _ p4); (try have p4 := hs _ p3); (try have p3 := hs _ p2); (try have p2 := hs _ p1); (try have q1 := new1 hz); (try have p1 := new2 hz); (try have r1 := new3 hz); have n0 := hc (w.heap.size + 1) 0 (by first | omega | (simp; omega) | (simp; done)); have n1 := hc (w.heap.size + 1) 1 (by first | omega | (simp; omega) | (simp; done)); (first | simp [go_sem, m0, m1] at n0 n1 | simp [go_sem] at n0 n1); (try clear m0 m1); have m0 := n0; have m1 := n1; clear n0 n1)
    exact bodyPost_ret (v := rv (-a) (b)) (by first | (simp [results, Try.results28, go_sem, m0, m1]; done) | (simp [results, Try.results28, go_sem]; done)) rfl ⟨ret_rp HL.out, (by repeat' (first | exact Below.refl _ _ | (refine Below.alloc ?_ ?_ _) | (refine Below.setCell ?_ ?_ _) | (refine Below.drew ?_) | (refine below_drewN ?_ _) | (refine Below.trans ?_ (Below.mono (by assumption) ?_)) | omega | (simp only [World.size_alloc, World.size_setCell, World.size_drew, size_drewN]; omega)))⟩
  · have HL : Hid (negR a b = (0, 0)) := by simp [Hid, negR, h1]
    go_enter Try.func28, Try.ntmps28
    go_wp2_with (go_at_call 31; refine (implIsRatio _ _ _).mono ?_; rintro e w1 ⟨rfl, hb⟩; obtain ⟨hc, hf⟩ := bcell hb; have hz := hb.size; (try simp only [World.size_alloc, World.size_setCell, World.size_drew, size_drewN] at hz); (first | have hs := up3 hz | have hs := up2 hz | have hs := up1 hz | have hs := up0 hz); (try have q10 := hs _ q9); (try have q9 := hs _ q8); (try have q8 := hs _ q7); (try have q7 := hs _ q6); (try have q6 := hs _ q5); (try have q5 := hs _ q4); (try have q4 := hs _ q3); (try have q3 := hs _ q2); (try have q2 := hs _ q1); (try have p7 := hs _ p6); (try have p6 := hs _ p5); (try have p5 := hs _ p4); (try have p4 := hs _ p3); (try have p3 := hs _ p2); (try have p2 := hs _ p1); (try have q1 := new1 hz); (try have p1 := new2 hz); (try have r1 := new3 hz); have n0 := hc (w.heap.size + 1) 0 (by first | omega | (simp; omega) | (simp; done)); have n1 := hc (w.heap.size + 1) 1 (by first | omega | (simp; omega) | (simp; done)); (first | simp [go_sem, m0, m1] at n0 n1 | simp [go_sem] at n0 n1); (try clear m0 m1); have m0 := n0; have m1 := n1; clear n0 n1)
    exact bodyPost_ret (v := rv (0) (0)) (by first | (simp [results, Try.results28, go_sem, m0, m1]; done) | (simp [results, Try.results28, go_sem]; done)) rfl ⟨ret_rp HL.out, (by repeat' (first | exact Below.refl _ _ | (refine Below.alloc ?_ ?_ _) | (refine Below.setCell ?_ ?_ _) | (refine Below.drew ?_) | (refine below_drewN ?_ _) | (refine Below.trans ?_ (Below.mono (by assumption) ?_)) | omega | (simp only [World.size_alloc, World.size_setCell, World.size_drew, size_drewN]; omega)))⟩

theorem implFloorRatio (a b : Int) (w : World) :
    Calls Try.prog 24 #[rv a b] w fun e w' => e = .returned (.int .i64 (floorR a b)) ∧ Below w.heap.size w w' := by
  rcases Bool.eq_false_or_eq_true (isRatio a b) with h1 | h1
  · obtain ⟨ga, gb, _⟩ := isRatio_t h1
    have HQ := hide (floorR_yes h1)
    go_enter Try.func24, Try.ntmps24
    go_wp2_with (first
      | (go_at_call 31; refine (implIsRatio _ _ _).mono ?_; rintro e w1 ⟨rfl, hb⟩; obtain ⟨hc, hf⟩ := bcell hb; have hz := hb.size; (try simp only [World.size_alloc, World.size_setCell, World.size_drew, size_drewN] at hz); (first | have hs := up3 hz | have hs := up2 hz | have hs := up1 hz | have hs := up0 hz); (try have q10 := hs _ q9); (try have q9 := hs _ q8); (try have q8 := hs _ q7); (try have q7 := hs _ q6); (try have q6 := hs _ q5); (try have q5 := hs _ q4); (try have q4 := hs _ q3); (try have q3 := hs _ q2); (try have q2 := hs _ q1); (try have p7 := hs _ p6); (try have p6 := hs _ p5); (try have p5 := hs _ p4); (try have p4 := hs _ p3); (try have p3 := hs _ p2); (try have p2 := hs _ p1); (try have q1 := new1 hz); (try have p1 := new2 hz); (try have r1 := new3 hz))
      | (go_at_call 39; refine (implFloorDiv_at a b _ HQ _ (by omega) (by omega) (by omega) (by omega)).mono ?_; rintro e w' ⟨rfl, k, rfl⟩))
    go_returns
    exact ⟨rfl, (by repeat' (first | exact Below.refl _ _ | (refine Below.alloc ?_ ?_ _) | (refine Below.setCell ?_ ?_ _) | (refine Below.drew ?_) | (refine below_drewN ?_ _) | (refine Below.trans ?_ (Below.mono (by assumption) ?_)) | omega | (simp only [World.size_alloc, World.size_setCell, World.size_drew, size_drewN]; omega)))⟩
  · have HQ := hide (floorR_no h1)
    go_enter Try.func24, Try.ntmps24
    go_wp2_with (go_at_call 31; refine (implIsRatio _ _ _).mono ?_; rintro e w1 ⟨rfl, hb⟩; obtain ⟨hc, hf⟩ := bcell hb; have hz := hb.size; (try simp only [World.size_alloc, World.size_setCell, World.size_drew, size_drewN] at hz); (first | have hs := up3 hz | have hs := up2 hz | have hs := up1 hz | have hs := up0 hz); (try have q10 := hs _ q9); (try have q9 := hs _ q8); (try have q8 := hs _ q7); (try have q7 := hs _ q6); (try have q6 := hs _ q5); (try have q5 := hs _ q4); (try have q4 := hs _ q3); (try have q3 := hs _ q2); (try have q2 := hs _ q1); (try have p7 := hs _ p6); (try have p6 := hs _ p5); (try have p5 := hs _ p4); (try have p4 := hs _ p3); (try have p3 := hs _ p2); (try have p2 := hs _ p1); (try have q1 := new1 hz); (try have p1 := new2 hz); (try have r1 := new3 hz))
    go_returns
    exact ⟨ret_int HQ.out.symm, (by repeat' (first | exact Below.refl _ _ | (refine Below.alloc ?_ ?_ _) | (refine Below.setCell ?_ ?_ _) | (refine Below.drew ?_) | (refine below_drewN ?_ _) | (refine Below.trans ?_ (Below.mono (by assumption) ?_)) | omega | (simp only [World.size_alloc, World.size_setCell, World.size_drew, size_drewN]; omega)))⟩
theorem implRoundRatio (a b : Int) (w : World) :
    Calls Try.prog 23 #[rv a b] w fun e w' => e = .returned (.int .i64 (roundR a b)) ∧ Below w.heap.size w w' := by
  rcases Bool.eq_false_or_eq_true (isRatio a b) with h1 | h1
  · obtain ⟨ga, gb, _⟩ := isRatio_t h1
    have HQ := hide (roundR_yes h1)
    go_enter Try.func23, Try.ntmps23
    go_wp2_with (first
      | (go_at_call 31; refine (implIsRatio _ _ _).mono ?_; rintro e w1 ⟨rfl, hb⟩; obtain ⟨hc, hf⟩ := bcell hb; have hz := hb.size; (try simp only [World.size_alloc, World.size_setCell, World.size_drew, size_drewN] at hz); (first | have hs := up3 hz | have hs := up2 hz | have hs := up1 hz | have hs := up0 hz); (try have q10 := hs _ q9); (try have q9 := hs _ q8); (try have q8 := hs _ q7); (try have q7 := hs _ q6); (try have q6 := hs _ q5); (try have q5 := hs _ q4); (try have q4 := hs _ q3); (try have q3 := hs _ q2); (try have q2 := hs _ q1); (try have p7 := hs _ p6); (try have p6 := hs _ p5); (try have p5 := hs _ p4); (try have p4 := hs _ p3); (try have p3 := hs _ p2); (try have p2 := hs _ p1); (try have q1 := new1 hz); (try have p1 := new2 hz); (try have r1 := new3 hz))
      | (go_at_call 39; refine (implFloorDiv_at (2 * a + b) (2 * b) _ HQ _ (by omega) (by omega) (by omega) (by omega)).mono ?_; rintro e w' ⟨rfl, k, rfl⟩))
    go_returns
    exact ⟨rfl, (by repeat' (first | exact Below.refl _ _ | (refine Below.alloc ?_ ?_ _) | (refine Below.setCell ?_ ?_ _) | (refine Below.drew ?_) | (refine below_drewN ?_ _) | (refine Below.trans ?_ (Below.mono (by assumption) ?_)) | omega | (simp only [World.size_alloc, World.size_setCell, World.size_drew, size_drewN]; omega)))⟩
  · have HQ := hide (roundR_no h1)
    go_enter Try.func23, Try.ntmps23
    go_wp2_with (go_at_call 31; refine (implIsRatio _ _ _).mono ?_; rintro e w1 ⟨rfl, hb⟩; obtain ⟨hc, hf⟩ := bcell hb; have hz := hb.size; (try simp only [World.size_alloc, World.size_setCell, World.size_drew, size_drewN] at hz); (first | have hs := up3 hz | have hs := up2 hz | have hs := up1 hz | have hs := up0 hz); (try have q10 := hs _ q9); (try have q9 := hs _ q8); (try have q8 := hs _ q7); (try have q7 := hs _ q6); (try have q6 := hs _ q5); (try have q5 := hs _ q4); (try have q4 := hs _ q3); (try have q3 := hs _ q2); (try have q2 := hs _ q1); (try have p7 := hs _ p6); (try have p6 := hs _ p5); (try have p5 := hs _ p4); (try have p4 := hs _ p3); (try have p3 := hs _ p2); (try have p2 := hs _ p1); (try have q1 := new1 hz); (try have p1 := new2 hz); (try have r1 := new3 hz))
    go_returns
    exact ⟨ret_int HQ.out.symm, (by repeat' (first | exact Below.refl _ _ | (refine Below.alloc ?_ ?_ _) | (refine Below.setCell ?_ ?_ _) | (refine Below.drew ?_) | (refine below_drewN ?_ _) | (refine Below.trans ?_ (Below.mono (by assumption) ?_)) | omega | (simp only [World.size_alloc, World.size_setCell, World.size_drew, size_drewN]; omega)))⟩
set_option maxHeartbeats 1000000 in
theorem implCompareRatios (a b c d : Int) (w : World) :
    Calls Try.prog 29 #[rv a b, rv c d] w fun e w' => e = .returned (.int .i64 (cmpR a b c d)) ∧ Below w.heap.size w w' := by
  rcases Bool.eq_false_or_eq_true (isRatio a b) with h1 | h1
  · rcases Bool.eq_false_or_eq_true (isRatio c d) with h2 | h2
    · obtain ⟨ga, gb, _⟩ := isRatio_t h1
      obtain ⟨gc, gd, _⟩ := isRatio_t h2
      have u1 := mul_in ga (show -400000000 ≤ d ∧ d ≤ 400000000 by omega)
      have u2 := mul_in gc (show -400000000 ≤ b ∧ b ≤ 400000000 by omega)
      have HQ : Hid (cmpR a b c d = (if a * d < c * b then -1 else if c * b < a * d then 1 else 0)) := by simp [Hid, cmpR, h1, h2]
      go_enter Try.func29, Try.ntmps29
      go_wp2_with (go_at_call 31; refine (implIsRatio _ _ _).mono ?_; rintro e w1 ⟨rfl, hb⟩; obtain ⟨hc, hf⟩ := bcell hb; have hz := hb.size; (try simp only [World.size_alloc, World.size_setCell, World.size_drew, size_drewN] at hz); (first | have hs := up3 hz | have hs := up2 hz | have hs := up1 hz | have hs := up0 hz); (try have q10 := hs _ q9); (try have q9 := hs _ q8); (try have q8 := hs _ q7); (try have q7 := hs _ q6); (try have q6 := hs _ q5); (try have q5 := hs _ q4); (try have q4 := hs _ q3); (try have q3 := hs _ q2); (try have q2 := hs _ q1); (try have p7 := hs _ p6); (try have p6 := hs _ p5); (try have p5 := hs _ p4); (try have p4 := hs _ p3); (try have p3 := hs _ p2); (try have p2 := hs _ p1); (try have q1 := new1 hz); (try have p1 := new2 hz); (try have r1 := new3 hz); (try have r2 := hs _ r1))
      all_goals
        go_returns
        exact ⟨ret_int (by rw [HQ.out]; first | rw [if_pos (by omega)] | rw [if_neg (by omega), if_pos (by omega)] | rw [if_neg (by omega), if_neg (by omega)]), (by repeat' (first | exact Below.refl _ _ | (refine Below.alloc ?_ ?_ _) | (refine Below.setCell ?_ ?_ _) | (refine Below.drew ?_) | (refine below_drewN ?_ _) | (refine Below.trans ?_ (Below.mono (by assumption) ?_)) | omega | (simp only [World.size_alloc, World.size_setCell, World.size_drew, size_drewN]; omega)))⟩
    · have HQ : Hid (cmpR a b c d = 2) := by simp [Hid, cmpR, h2]
      go_enter Try.func29, Try.ntmps29
      go_wp2_with (go_at_call 31; refine (implIsRatio _ _ _).mono ?_; rintro e w1 ⟨rfl, hb⟩; obtain ⟨hc, hf⟩ := bcell hb; have hz := hb.size; (try simp only [World.size_alloc, World.size_setCell, World.size_drew, size_drewN] at hz); (first | have hs := up3 hz | have hs := up2 hz | have hs := up1 hz | have hs := up0 hz); (try have q10 := hs _ q9); (try have q9 := hs _ q8); (try have q8 := hs _ q7); (try have q7 := hs _ q6); (try have q6 := hs _ q5); (try have q5 := hs _ q4); (try have q4 := hs _ q3); (try have q3 := hs _ q2); (try have q2 := hs _ q1); (try have p7 := hs _ p6); (try have p6 := hs _ p5); (try have p5 := hs _ p4); (try have p4 := hs _ p3); (try have p3 := hs _ p2); (try have p2 := hs _ p1); (try have q1 := new1 hz); (try have p1 := new2 hz); (try have r1 := new3 hz))
      go_returns
      exact ⟨ret_int HQ.out.symm, (by repeat' (first | exact Below.refl _ _ | (refine Below.alloc ?_ ?_ _) | (refine Below.setCell ?_ ?_ _) | (refine Below.drew ?_) | (refine below_drewN ?_ _) | (refine Below.trans ?_ (Below.mono (by assumption) ?_)) | omega | (simp only [World.size_alloc, World.size_setCell, World.size_drew, size_drewN]; omega)))⟩
  · have HQ : Hid (cmpR a b c d = 2) := by simp [Hid, cmpR, h1]
    go_enter Try.func29, Try.ntmps29
    go_wp2_with (go_at_call 31; refine (implIsRatio _ _ _).mono ?_; rintro e w1 ⟨rfl, hb⟩; obtain ⟨hc, hf⟩ := bcell hb; have hz := hb.size; (try simp only [World.size_alloc, World.size_setCell, World.size_drew, size_drewN] at hz); (first | have hs := up3 hz | have hs := up2 hz | have hs := up1 hz | have hs := up0 hz); (try have q10 := hs _ q9); (try have q9 := hs _ q8); (try have q8 := hs _ q7); (try have q7 := hs _ q6); (try have q6 := hs _ q5); (try have q5 := hs _ q4); (try have q4 := hs _ q3); (try have q3 := hs _ q2); (try have q2 := hs _ q1); (try have p7 := hs _ p6); (try have p6 := hs _ p5); (try have p5 := hs _ p4); (try have p4 := hs _ p3); (try have p3 := hs _ p2); (try have p2 := hs _ p1); (try have q1 := new1 hz); (try have p1 := new2 hz); (try have r1 := new3 hz))
    go_returns
    exact ⟨ret_int HQ.out.symm, (by repeat' (first | exact Below.refl _ _ | (refine Below.alloc ?_ ?_ _) | (refine Below.setCell ?_ ?_ _) | (refine Below.drew ?_) | (refine below_drewN ?_ _) | (refine Below.trans ?_ (Below.mono (by assumption) ?_)) | omega | (simp only [World.size_alloc, World.size_setCell, World.size_drew, size_drewN]; omega)))⟩

end Go.Proofs.Ytkoopheikdbliaa
