/- The walks of the functions on ratios. -/
import Derived.Test.YtkoopheikdbliaaNumW
import Derived.Test.YtkoopheikdbliaaRat
import Derived.RegionTactic
import Derived.BigRegion
import Derived.ChangeAlike
namespace Go.Proofs.Ytkoopheikdbliaa
open Go.RowKit
set_option linter.unusedSimpArgs false
set_option linter.unusedVariables false

abbrev rv (n d : Int) : Value := .agg #[.int .i64 n, .int .i64 d]
theorem ret_rv {n d n' d' : Int} (h : n = n') (h' : d = d') : Ending.returned (rv n d) = .returned (rv n' d') := by rw [h, h']
theorem ret_rp {n d : Int} {p : Int × Int} (h : p = (n, d)) : Ending.returned (rv n d) = .returned (rv p.1 p.2) := by rw [h]

theorem toRatio (n d : Int) (w : World) :
    Calls Try.prog 10 #[rv n d] w fun e w' => e = .returned (rv n d) ∧ Below w.heap.size w w' := by
  go_enter Try.func10, Try.ntmps10
  go_wp2
  go_returns
  exact ⟨rfl, (by repeat' (first | exact Below.refl _ _ | (refine Below.alloc ?_ ?_ _) | (refine Below.setCell ?_ ?_ _) | (refine Below.drew ?_) | (refine below_drewN ?_ _) | (refine Below.trans ?_ (Below.mono (by assumption) ?_)) | omega | (simp only [World.size_alloc, World.size_setCell, World.size_drew, size_drewN]; omega)))⟩

theorem eqRatio_same (n d : Int) (w : World) :
    Calls Try.prog 12 #[rv n d, rv n d] w fun e w' => e = .returned (.bool true) ∧ Below w.heap.size w w' := by
  have e1 : (n != n) = false := by simp
  have e2 : (d != d) = false := by simp
  go_enter Try.func12, Try.ntmps12
  go_wp2
  go_returns
  exact ⟨rfl, (by repeat' (first | exact Below.refl _ _ | (refine Below.alloc ?_ ?_ _) | (refine Below.setCell ?_ ?_ _) | (refine Below.drew ?_) | (refine below_drewN ?_ _) | (refine Below.trans ?_ (Below.mono (by assumption) ?_)) | omega | (simp only [World.size_alloc, World.size_setCell, World.size_drew, size_drewN]; omega)))⟩

theorem implIsRatio (n d : Int) (w : World) :
    Calls Try.prog 31 #[rv n d] w fun e w' => e = .returned (.bool (isRatio n d)) ∧ Below w.heap.size w w' := by
  by_cases h1 : 1 ≤ d ∧ d ≤ 400000000
  · rcases Bool.eq_false_or_eq_true (isNum n) with h2 | h2
    · have HF := hide (isRatio_fin h1 h2)
      have h3 := isNum_t h2
      go_enter Try.func31, Try.ntmps31
      go_wp2_with (first
        | (go_at_call 34; refine (implIsNumber _ _).mono ?_; rintro e w' ⟨rfl, rfl⟩)
        | (go_at_call 36; refine (implGcd _ _ _ (by omega) (by omega) (by omega) (by omega)).mono ?_; rintro e w' ⟨rfl, k, rfl⟩))
      go_returns
      exact ⟨ret_bool HF.out.symm, (by repeat' (first | exact Below.refl _ _ | (refine Below.alloc ?_ ?_ _) | (refine Below.setCell ?_ ?_ _) | (refine Below.drew ?_) | (refine below_drewN ?_ _) | (refine Below.trans ?_ (Below.mono (by assumption) ?_)) | omega | (simp only [World.size_alloc, World.size_setCell, World.size_drew, size_drewN]; omega)))⟩
    · have HF := hide (isRatio_no2 (d := d) h2)
      go_enter Try.func31, Try.ntmps31
      go_wp2_with (go_at_call 34; refine (implIsNumber _ _).mono ?_; rintro e w' ⟨rfl, rfl⟩)
      go_returns
      exact ⟨ret_bool HF.out.symm, (by repeat' (first | exact Below.refl _ _ | (refine Below.alloc ?_ ?_ _) | (refine Below.setCell ?_ ?_ _) | (refine Below.drew ?_) | (refine below_drewN ?_ _) | (refine Below.trans ?_ (Below.mono (by assumption) ?_)) | omega | (simp only [World.size_alloc, World.size_setCell, World.size_drew, size_drewN]; omega)))⟩
  · have HF := hide (isRatio_no1 (n := n) h1)
    have HI := hide h1; clear h1
    go_enter Try.func31, Try.ntmps31
    go_wp2_with (first
      | (go_at_call 34; refine (implIsNumber _ _).mono ?_; rintro e w' ⟨rfl, rfl⟩))
    all_goals first
      | (exfalso; have := HI.out; omega)
      | (go_returns; exact ⟨ret_bool HF.out.symm, (by repeat' (first | exact Below.refl _ _ | (refine Below.alloc ?_ ?_ _) | (refine Below.setCell ?_ ?_ _) | (refine Below.drew ?_) | (refine below_drewN ?_ _) | (refine Below.trans ?_ (Below.mono (by assumption) ?_)) | omega | (simp only [World.size_alloc, World.size_setCell, World.size_drew, size_drewN]; omega)))⟩)
theorem specIsRatio (n d : Int) (w : World) :
    Calls Try.prog 25 #[rv n d] w fun e w' => e = .returned (.bool (isRatio n d)) ∧ Below w.heap.size w w' := by
  by_cases h1 : 1 ≤ d ∧ d ≤ 400000000
  · have d1 : decide (1 ≤ d ∧ d ≤ 400000000) = true := decide_eq_true h1
    rcases Bool.eq_false_or_eq_true (isNum n) with h2 | h2
    · have h4 : isNum d = true := isNum_mk (by omega)
      have HF : Hid (isRatio n d = (gcdOf n d == 1)) := by rw [Hid, isRatio_fin h1 h2, gcdOf, if_pos ⟨h2, h4⟩]
      go_enter Try.func25, Try.ntmps25
      go_wp2_with (first
        | (go_at_call 40; refine (specIn _ _ _ _).mono ?_; rintro e w' ⟨rfl, rfl⟩)
        | (go_at_call 35; refine (specIsNumber _ _).mono ?_; rintro e w' ⟨rfl, rfl⟩)
        | (go_at_call 41; refine (specGcdOf _ _ _).mono ?_; rintro e w' ⟨rfl, k, rfl⟩))
      go_returns
      exact ⟨ret_bool HF.out.symm, (by repeat' (first | exact Below.refl _ _ | (refine Below.alloc ?_ ?_ _) | (refine Below.setCell ?_ ?_ _) | (refine Below.drew ?_) | (refine below_drewN ?_ _) | (refine Below.trans ?_ (Below.mono (by assumption) ?_)) | omega | (simp only [World.size_alloc, World.size_setCell, World.size_drew, size_drewN]; omega)))⟩
    · have HF := hide (isRatio_no2 (d := d) h2)
      go_enter Try.func25, Try.ntmps25
      go_wp2_with (first
        | (go_at_call 40; refine (specIn _ _ _ _).mono ?_; rintro e w' ⟨rfl, rfl⟩)
        | (go_at_call 35; refine (specIsNumber _ _).mono ?_; rintro e w' ⟨rfl, rfl⟩))
      go_returns
      exact ⟨ret_bool HF.out.symm, (by repeat' (first | exact Below.refl _ _ | (refine Below.alloc ?_ ?_ _) | (refine Below.setCell ?_ ?_ _) | (refine Below.drew ?_) | (refine below_drewN ?_ _) | (refine Below.trans ?_ (Below.mono (by assumption) ?_)) | omega | (simp only [World.size_alloc, World.size_setCell, World.size_drew, size_drewN]; omega)))⟩
  · have HF := hide (isRatio_no1 (n := n) h1)
    have d1 : decide (1 ≤ d ∧ d ≤ 400000000) = false := decide_eq_false h1
    clear h1
    go_enter Try.func25, Try.ntmps25
    go_wp2_with (first
      | (go_at_call 40; refine (specIn _ _ _ _).mono ?_; rintro e w' ⟨rfl, rfl⟩)
      | (go_at_call 35; refine (specIsNumber _ _).mono ?_; rintro e w' ⟨rfl, rfl⟩))
    go_returns
    exact ⟨ret_bool HF.out.symm, (by repeat' (first | exact Below.refl _ _ | (refine Below.alloc ?_ ?_ _) | (refine Below.setCell ?_ ?_ _) | (refine Below.drew ?_) | (refine below_drewN ?_ _) | (refine Below.trans ?_ (Below.mono (by assumption) ?_)) | omega | (simp only [World.size_alloc, World.size_setCell, World.size_drew, size_drewN]; omega)))⟩

theorem low_yes {n d n' d' : Int} (h : d ≠ 0) (h1 : lowN n d = n') (h2 : lowD n d = d') (h3 : isRatio n' d' = true) : low n d = (n', d') := by
  unfold low lowOk; rw [h1, h2, h3, if_pos (by simpa using h)]
theorem low_no {n d n' d' : Int} (h1 : lowN n d = n') (h2 : lowD n d = d') (h3 : isRatio n' d' = false) : low n d = (0, 0) := by
  unfold low lowOk; rw [h1, h2, h3, if_neg (by simp)]

theorem implGcd_at (a b g : Int) (hg : Hid ((Int.gcd a b : Int) = g)) (w : World) (h : -9223372036854775808 < a) (h' : a ≤ 9223372036854775807) (h2 : -9223372036854775808 < b) (h2' : b ≤ 9223372036854775807):
    Calls Try.prog 36 #[.int .i64 a, .int .i64 b] w fun e w' => e = .returned (.int .i64 g) ∧ ∃ n, w' = w.drewN n :=
  (implGcd a b w h h' h2 h2').mono fun _ _ ⟨he, hw⟩ => ⟨by rw [he, hg.out], hw⟩
theorem implLowest (n d : Int) (h : d ≠ 0) (w : World) (h1 : -9223372036854775807 ≤ n) (h2 : n ≤ 9223372036854775807) (h3 : -9223372036854775807 ≤ d) (h4 : d ≤ 9223372036854775807) :
    Calls Try.prog 32 #[.int .i64 n, .int .i64 d] w fun e w' => e = .returned (rv (low n d).1 (low n d).2) ∧ Below w.heap.size w w' := by
  obtain ⟨g, n', d', hg, g1, g2, hN, hD, n1, n2, d1, d2, hneg, hpos⟩ := low_facts h h1 h2 h3 h4
  have HG := hide hg; clear hg
  by_cases hs : d < 0
  · obtain ⟨e1, e2, _, _⟩ := hneg hs
    have z1 : (-g == 0) = false := by simp; omega
    clear hneg hpos
    rcases Bool.eq_false_or_eq_true (isRatio n' d') with hr | hr
    · have HL := hide (low_yes h hN hD hr)
      clear hN hD h
      go_enter Try.func32, Try.ntmps32
      go_wp2_with (go_at_call 36; refine (implGcd_at _ _ g HG _ (by omega) (by omega) (by omega) (by omega)).mono ?_; rintro e w' ⟨rfl, k, rfl⟩)
      go_region
      all_goals go_wp2_with (go_at_call 31; refine (implIsRatio _ _ _).mono ?_; rintro e w1 ⟨rfl, hb⟩; obtain ⟨hc, hf⟩ := bcell hb; have hz := hb.size; (try simp only [World.size_alloc, World.size_setCell, World.size_drew, size_drewN] at hz); (first | have hs := up3 hz | have hs := up2 hz | have hs := up1 hz | have hs := up0 hz); (try have q10 := hs _ q9); (try have q9 := hs _ q8); (try have q8 := hs _ q7); (try have q7 := hs _ q6); (try have q6 := hs _ q5); (try have q5 := hs _ q4); (try have q4 := hs _ q3); (try have q3 := hs _ q2); (try have q2 := hs _ q1); (try have p7 := hs _ p6); (try have p6 := hs _ p5); (try have p5 := hs _ p4); (try have p4 := hs _ p3); (try have p3 := hs _ p2); (try have p2 := hs _ p1); (try have q1 := new1 hz); (try have p1 := new2 hz); (try have r1 := new3 hz); have n0 := hc (w.heap.size) 0 (by first | omega | (simp; omega) | (simp; done)); have n1 := hc (w.heap.size) 1 (by first | omega | (simp; omega) | (simp; done)); (first | simp [go_sem, m0, m1] at n0 n1 | simp [go_sem] at n0 n1); (try clear m0 m1); have m0 := n0; have m1 := n1; clear n0 n1)
      all_goals exact bodyPost_ret (v := rv (n') (d')) (by first | (simp [results, Try.results32, go_sem, m0, m1]; done) | (simp [results, Try.results32, go_sem]; done)) rfl ⟨ret_rp HL.out, (by repeat' (first | exact Below.refl _ _ | (refine Below.alloc ?_ ?_ _) | (refine Below.setCell ?_ ?_ _) | (refine Below.drew ?_) | (refine below_drewN ?_ _) | (refine Below.trans ?_ (Below.mono (by assumption) ?_)) | omega | (simp only [World.size_alloc, World.size_setCell, World.size_drew, size_drewN]; omega)))⟩
    · have HL := hide (low_no hN hD hr)
      clear hN hD h
      go_enter Try.func32, Try.ntmps32
      go_wp2_with (go_at_call 36; refine (implGcd_at _ _ g HG _ (by omega) (by omega) (by omega) (by omega)).mono ?_; rintro e w' ⟨rfl, k, rfl⟩)
      go_region
      all_goals go_wp2_with (go_at_call 31; refine (implIsRatio _ _ _).mono ?_; rintro e w1 ⟨rfl, hb⟩; obtain ⟨hc, hf⟩ := bcell hb; have hz := hb.size; (try simp only [World.size_alloc, World.size_setCell, World.size_drew, size_drewN] at hz); (first | have hs := up3 hz | have hs := up2 hz | have hs := up1 hz | have hs := up0 hz); (try have q10 := hs _ q9); (try have q9 := hs _ q8); (try have q8 := hs _ q7); (try have q7 := hs _ q6); (try have q6 := hs _ q5); (try have q5 := hs _ q4); (try have q4 := hs _ q3); (try have q3 := hs _ q2); (try have q2 := hs _ q1); (try have p7 := hs _ p6); (try have p6 := hs _ p5); (try have p5 := hs _ p4); (try have p4 := hs _ p3); (try have p3 := hs _ p2); (try have p2 := hs _ p1); (try have q1 := new1 hz); (try have p1 := new2 hz); (try have r1 := new3 hz); have n0 := hc (w.heap.size) 0 (by first | omega | (simp; omega) | (simp; done)); have n1 := hc (w.heap.size) 1 (by first | omega | (simp; omega) | (simp; done)); (first | simp [go_sem, m0, m1] at n0 n1 | simp [go_sem] at n0 n1); (try clear m0 m1); have m0 := n0; have m1 := n1; clear n0 n1)
      all_goals exact bodyPost_ret (v := rv (0) (0)) (by first | (simp [results, Try.results32, go_sem, m0, m1]; done) | (simp [results, Try.results32, go_sem]; done)) rfl ⟨ret_rp HL.out, (by repeat' (first | exact Below.refl _ _ | (refine Below.alloc ?_ ?_ _) | (refine Below.setCell ?_ ?_ _) | (refine Below.drew ?_) | (refine below_drewN ?_ _) | (refine Below.trans ?_ (Below.mono (by assumption) ?_)) | omega | (simp only [World.size_alloc, World.size_setCell, World.size_drew, size_drewN]; omega)))⟩
  · obtain ⟨e1, e2⟩ := hpos (by omega)
    have z1 : (g == 0) = false := by simp; omega
    clear hneg hpos
    rcases Bool.eq_false_or_eq_true (isRatio n' d') with hr | hr
    · have HL := hide (low_yes h hN hD hr)
      clear hN hD h
      go_enter Try.func32, Try.ntmps32
      go_wp2_with (go_at_call 36; refine (implGcd_at _ _ g HG _ (by omega) (by omega) (by omega) (by omega)).mono ?_; rintro e w' ⟨rfl, k, rfl⟩)
      go_region
      all_goals go_wp2_with (go_at_call 31; refine (implIsRatio _ _ _).mono ?_; rintro e w1 ⟨rfl, hb⟩; obtain ⟨hc, hf⟩ := bcell hb; have hz := hb.size; (try simp only [World.size_alloc, World.size_setCell, World.size_drew, size_drewN] at hz); (first | have hs := up3 hz | have hs := up2 hz | have hs := up1 hz | have hs := up0 hz); (try have q10 := hs _ q9); (try have q9 := hs _ q8); (try have q8 := hs _ q7); (try have q7 := hs _ q6); (try have q6 := hs _ q5); (try have q5 := hs _ q4); (try have q4 := hs _ q3); (try have q3 := hs _ q2); (try have q2 := hs _ q1); (try have p7 := hs _ p6); (try have p6 := hs _ p5); (try have p5 := hs _ p4); (try have p4 := hs _ p3); (try have p3 := hs _ p2); (try have p2 := hs _ p1); (try have q1 := new1 hz); (try have p1 := new2 hz); (try have r1 := new3 hz); have n0 := hc (w.heap.size) 0 (by first | omega | (simp; omega) | (simp; done)); have n1 := hc (w.heap.size) 1 (by first | omega | (simp; omega) | (simp; done)); (first | simp [go_sem, m0, m1] at n0 n1 | simp [go_sem] at n0 n1); (try clear m0 m1); have m0 := n0; have m1 := n1; clear n0 n1)
      all_goals exact bodyPost_ret (v := rv (n') (d')) (by first | (simp [results, Try.results32, go_sem, m0, m1]; done) | (simp [results, Try.results32, go_sem]; done)) rfl ⟨ret_rp HL.out, (by repeat' (first | exact Below.refl _ _ | (refine Below.alloc ?_ ?_ _) | (refine Below.setCell ?_ ?_ _) | (refine Below.drew ?_) | (refine below_drewN ?_ _) | (refine Below.trans ?_ (Below.mono (by assumption) ?_)) | omega | (simp only [World.size_alloc, World.size_setCell, World.size_drew, size_drewN]; omega)))⟩
    · have HL := hide (low_no hN hD hr)
      clear hN hD h
      go_enter Try.func32, Try.ntmps32
      go_wp2_with (go_at_call 36; refine (implGcd_at _ _ g HG _ (by omega) (by omega) (by omega) (by omega)).mono ?_; rintro e w' ⟨rfl, k, rfl⟩)
      go_region
      all_goals go_wp2_with (go_at_call 31; refine (implIsRatio _ _ _).mono ?_; rintro e w1 ⟨rfl, hb⟩; obtain ⟨hc, hf⟩ := bcell hb; have hz := hb.size; (try simp only [World.size_alloc, World.size_setCell, World.size_drew, size_drewN] at hz); (first | have hs := up3 hz | have hs := up2 hz | have hs := up1 hz | have hs := up0 hz); (try have q10 := hs _ q9); (try have q9 := hs _ q8); (try have q8 := hs _ q7); (try have q7 := hs _ q6); (try have q6 := hs _ q5); (try have q5 := hs _ q4); (try have q4 := hs _ q3); (try have q3 := hs _ q2); (try have q2 := hs _ q1); (try have p7 := hs _ p6); (try have p6 := hs _ p5); (try have p5 := hs _ p4); (try have p4 := hs _ p3); (try have p3 := hs _ p2); (try have p2 := hs _ p1); (try have q1 := new1 hz); (try have p1 := new2 hz); (try have r1 := new3 hz); have n0 := hc (w.heap.size) 0 (by first | omega | (simp; omega) | (simp; done)); have n1 := hc (w.heap.size) 1 (by first | omega | (simp; omega) | (simp; done)); (first | simp [go_sem, m0, m1] at n0 n1 | simp [go_sem] at n0 n1); (try clear m0 m1); have m0 := n0; have m1 := n1; clear n0 n1)
      all_goals exact bodyPost_ret (v := rv (0) (0)) (by first | (simp [results, Try.results32, go_sem, m0, m1]; done) | (simp [results, Try.results32, go_sem]; done)) rfl ⟨ret_rp HL.out, (by repeat' (first | exact Below.refl _ _ | (refine Below.alloc ?_ ?_ _) | (refine Below.setCell ?_ ?_ _) | (refine Below.drew ?_) | (refine below_drewN ?_ _) | (refine Below.trans ?_ (Below.mono (by assumption) ?_)) | omega | (simp only [World.size_alloc, World.size_setCell, World.size_drew, size_drewN]; omega)))⟩

set_option maxHeartbeats 1000000 in
theorem specL2Make (n d : Int) (w : World) (h1 : -9223372036854775807 ≤ n) (h2 : n ≤ 9223372036854775807) (h3 : -9223372036854775807 ≤ d) (h4 : d ≤ 9223372036854775807) :
    Calls Try.prog 30 #[.int .i64 n, .int .i64 d] w fun e w' => e = .returned (rv (low n d).1 (low n d).2) ∧ Below w.heap.size w w' := by
  by_cases h : d = 0
  · subst h
    have HL := hide (low_zero n)
    go_enter Try.func30, Try.ntmps30
    go_wp2
    exact bodyPost_ret (v := rv (0) (0)) (by first | (simp [results, Try.results30, go_sem, m0, m1]; done) | (simp [results, Try.results30, go_sem]; done)) rfl ⟨ret_rp HL.out, (by repeat' (first | exact Below.refl _ _ | (refine Below.alloc ?_ ?_ _) | (refine Below.setCell ?_ ?_ _) | (refine Below.drew ?_) | (refine below_drewN ?_ _) | (refine Below.trans ?_ (Below.mono (by assumption) ?_)) | omega | (simp only [World.size_alloc, World.size_setCell, World.size_drew, size_drewN]; omega)))⟩
  · obtain ⟨g, n', d', hg, g1, g2, hN, hD, n1, n2, d1, d2, hneg, hpos⟩ := low_facts h h1 h2 h3 h4
    have hz' : (d == 0) = false := by simpa using h
    by_cases hs : d < 0
    · obtain ⟨_, _, e1, e2⟩ := hneg hs
      have z1 : (g == 0) = false := by simp; omega
      clear hneg hpos
      rcases Bool.eq_false_or_eq_true (isRatio n' d') with hr | hr
      · have HL := hide (low_yes h hN hD hr)
        have HE := hide (And.intro e1 e2)
        have HG : Hid ((Int.gcd (-n) (-d) : Int) = g) := by rw [Hid, ← hg]; try simp
        clear hN hD h hg e1 e2
        go_enter Try.func30, Try.ntmps30
        go_wp2
        go_loopw [5, 6] (fun x y wr => ∃ (p q : Int) (m : Nat), -9223372036854775807 ≤ p ∧ p ≤ 9223372036854775807 ∧ -9223372036854775807 ≤ q ∧ q ≤ 9223372036854775807 ∧ Hid ((Int.gcd p q : Int) = g) ∧ x = .int .i64 p ∧ y = .int .i64 q ∧ wr = (w.alloc (.cells #[.int .i64 0, .int .i64 0] 24)).drewN m) (fun _ y _ => (intOf y).natAbs)
        case atStart => exact ⟨(-n), (-d), 0, by omega, by omega, by omega, by omega, HG, rfl, rfl, rfl⟩
        case round =>
          obtain ⟨p, q, m, hp, hp', hq, hq', hg, rfl, rfl, rfl⟩ := hrel
          by_cases hz : q = 0
          · subst hz
            have HA : Hid ((p.natAbs : Int) = g) := by have := hg.out; simpa [Hid] using this
            have HB := hide hg; clear hg
            obtain ⟨e1, e2⟩ := HE.out
            go_wp2_with (go_at_call 43; refine (specAbs_at p g HA _ (by omega) (by omega)).mono ?_; rintro e w' ⟨rfl, rfl⟩)
            go_region
            all_goals go_wp2_with (go_at_call 25; refine (specIsRatio _ _ _).mono ?_; rintro e w1 ⟨rfl, hb⟩; obtain ⟨hc, hf⟩ := bcell hb; have hz := hb.size; (try simp only [World.size_alloc, World.size_setCell, World.size_drew, size_drewN] at hz); (first | have hs := up3 hz | have hs := up2 hz | have hs := up1 hz | have hs := up0 hz); (try have q10 := hs _ q9); (try have q9 := hs _ q8); (try have q8 := hs _ q7); (try have q7 := hs _ q6); (try have q6 := hs _ q5); (try have q5 := hs _ q4); (try have q4 := hs _ q3); (try have q3 := hs _ q2); (try have q2 := hs _ q1); (try have p7 := hs _ p6); (try have p6 := hs _ p5); (try have p5 := hs _ p4); (try have p4 := hs _ p3); (try have p3 := hs _ p2); (try have p2 := hs _ p1); (try have q1 := new1 hz); (try have p1 := new2 hz); (try have r1 := new3 hz); have n0 := hc (w.heap.size) 0 (by first | omega | (simp; omega) | (simp; done)); have n1 := hc (w.heap.size) 1 (by first | omega | (simp; omega) | (simp; done)); (first | simp [go_sem, m0, m1] at n0 n1 | simp [go_sem] at n0 n1); (try clear m0 m1); have m0 := n0; have m1 := n1; clear n0 n1)
            all_goals exact bodyPost_ret (v := rv (n') (d')) (by first | (simp [results, Try.results30, go_sem, m0, m1]; done) | (simp [results, Try.results30, go_sem]; done)) rfl ⟨ret_rp HL.out, (by repeat' (first | exact Below.refl _ _ | (refine Below.alloc ?_ ?_ _) | (refine Below.setCell ?_ ?_ _) | (refine Below.drew ?_) | (refine below_drewN ?_ _) | (refine Below.trans ?_ (Below.mono (by assumption) ?_)) | omega | (simp only [World.size_alloc, World.size_setCell, World.size_drew, size_drewN]; omega)))⟩
          · have hz' : (q == 0) = false := by simpa using hz
            have hz2 : (q != 0) = true := by simpa using hz
            go_wp2
            go_quiet (fail)
            go_wp2
            go_roundw
            case rel => exact ⟨q, p.tmod q, _, hq, hq', by have := tmod_in p q hz (by omega) (by omega); omega, by have := tmod_in p q hz (by omega) (by omega); omega, by rw [Hid, gcd_tmod]; exact hg.out, rfl, rfl, by rw [World.drewN_drewN]⟩
            case measure => exact tmod_lt p q hz
      · have HL := hide (low_no hN hD hr)
        have HE := hide (And.intro e1 e2)
        have HG : Hid ((Int.gcd (-n) (-d) : Int) = g) := by rw [Hid, ← hg]; try simp
        clear hN hD h hg e1 e2
        go_enter Try.func30, Try.ntmps30
        go_wp2
        go_loopw [5, 6] (fun x y wr => ∃ (p q : Int) (m : Nat), -9223372036854775807 ≤ p ∧ p ≤ 9223372036854775807 ∧ -9223372036854775807 ≤ q ∧ q ≤ 9223372036854775807 ∧ Hid ((Int.gcd p q : Int) = g) ∧ x = .int .i64 p ∧ y = .int .i64 q ∧ wr = (w.alloc (.cells #[.int .i64 0, .int .i64 0] 24)).drewN m) (fun _ y _ => (intOf y).natAbs)
        case atStart => exact ⟨(-n), (-d), 0, by omega, by omega, by omega, by omega, HG, rfl, rfl, rfl⟩
        case round =>
          obtain ⟨p, q, m, hp, hp', hq, hq', hg, rfl, rfl, rfl⟩ := hrel
          by_cases hz : q = 0
          · subst hz
            have HA : Hid ((p.natAbs : Int) = g) := by have := hg.out; simpa [Hid] using this
            have HB := hide hg; clear hg
            obtain ⟨e1, e2⟩ := HE.out
            go_wp2_with (go_at_call 43; refine (specAbs_at p g HA _ (by omega) (by omega)).mono ?_; rintro e w' ⟨rfl, rfl⟩)
            go_region
            all_goals go_wp2_with (go_at_call 25; refine (specIsRatio _ _ _).mono ?_; rintro e w1 ⟨rfl, hb⟩; obtain ⟨hc, hf⟩ := bcell hb; have hz := hb.size; (try simp only [World.size_alloc, World.size_setCell, World.size_drew, size_drewN] at hz); (first | have hs := up3 hz | have hs := up2 hz | have hs := up1 hz | have hs := up0 hz); (try have q10 := hs _ q9); (try have q9 := hs _ q8); (try have q8 := hs _ q7); (try have q7 := hs _ q6); (try have q6 := hs _ q5); (try have q5 := hs _ q4); (try have q4 := hs _ q3); (try have q3 := hs _ q2); (try have q2 := hs _ q1); (try have p7 := hs _ p6); (try have p6 := hs _ p5); (try have p5 := hs _ p4); (try have p4 := hs _ p3); (try have p3 := hs _ p2); (try have p2 := hs _ p1); (try have q1 := new1 hz); (try have p1 := new2 hz); (try have r1 := new3 hz); have n0 := hc (w.heap.size) 0 (by first | omega | (simp; omega) | (simp; done)); have n1 := hc (w.heap.size) 1 (by first | omega | (simp; omega) | (simp; done)); (first | simp [go_sem, m0, m1] at n0 n1 | simp [go_sem] at n0 n1); (try clear m0 m1); have m0 := n0; have m1 := n1; clear n0 n1)
            all_goals exact bodyPost_ret (v := rv (0) (0)) (by first | (simp [results, Try.results30, go_sem, m0, m1]; done) | (simp [results, Try.results30, go_sem]; done)) rfl ⟨ret_rp HL.out, (by repeat' (first | exact Below.refl _ _ | (refine Below.alloc ?_ ?_ _) | (refine Below.setCell ?_ ?_ _) | (refine Below.drew ?_) | (refine below_drewN ?_ _) | (refine Below.trans ?_ (Below.mono (by assumption) ?_)) | omega | (simp only [World.size_alloc, World.size_setCell, World.size_drew, size_drewN]; omega)))⟩
          · have hz' : (q == 0) = false := by simpa using hz
            have hz2 : (q != 0) = true := by simpa using hz
            go_wp2
            go_quiet (fail)
            go_wp2
            go_roundw
            case rel => exact ⟨q, p.tmod q, _, hq, hq', by have := tmod_in p q hz (by omega) (by omega); omega, by have := tmod_in p q hz (by omega) (by omega); omega, by rw [Hid, gcd_tmod]; exact hg.out, rfl, rfl, by rw [World.drewN_drewN]⟩
            case measure => exact tmod_lt p q hz
    · obtain ⟨e1, e2⟩ := hpos (by omega)
      have z1 : (g == 0) = false := by simp; omega
      clear hneg hpos
      rcases Bool.eq_false_or_eq_true (isRatio n' d') with hr | hr
      · have HL := hide (low_yes h hN hD hr)
        have HE := hide (And.intro e1 e2)
        have HG : Hid ((Int.gcd n d : Int) = g) := by rw [Hid, ← hg]; try simp
        clear hN hD h hg e1 e2
        go_enter Try.func30, Try.ntmps30
        go_wp2
        go_loopw [5, 6] (fun x y wr => ∃ (p q : Int) (m : Nat), -9223372036854775807 ≤ p ∧ p ≤ 9223372036854775807 ∧ -9223372036854775807 ≤ q ∧ q ≤ 9223372036854775807 ∧ Hid ((Int.gcd p q : Int) = g) ∧ x = .int .i64 p ∧ y = .int .i64 q ∧ wr = (w.alloc (.cells #[.int .i64 0, .int .i64 0] 24)).drewN m) (fun _ y _ => (intOf y).natAbs)
        case atStart => exact ⟨n, d, 0, by omega, by omega, by omega, by omega, HG, rfl, rfl, rfl⟩
        case round =>
          obtain ⟨p, q, m, hp, hp', hq, hq', hg, rfl, rfl, rfl⟩ := hrel
          by_cases hz : q = 0
          · subst hz
            have HA : Hid ((p.natAbs : Int) = g) := by have := hg.out; simpa [Hid] using this
            have HB := hide hg; clear hg
            obtain ⟨e1, e2⟩ := HE.out
            go_wp2_with (go_at_call 43; refine (specAbs_at p g HA _ (by omega) (by omega)).mono ?_; rintro e w' ⟨rfl, rfl⟩)
            go_region
            all_goals go_wp2_with (go_at_call 25; refine (specIsRatio _ _ _).mono ?_; rintro e w1 ⟨rfl, hb⟩; obtain ⟨hc, hf⟩ := bcell hb; have hz := hb.size; (try simp only [World.size_alloc, World.size_setCell, World.size_drew, size_drewN] at hz); (first | have hs := up3 hz | have hs := up2 hz | have hs := up1 hz | have hs := up0 hz); (try have q10 := hs _ q9); (try have q9 := hs _ q8); (try have q8 := hs _ q7); (try have q7 := hs _ q6); (try have q6 := hs _ q5); (try have q5 := hs _ q4); (try have q4 := hs _ q3); (try have q3 := hs _ q2); (try have q2 := hs _ q1); (try have p7 := hs _ p6); (try have p6 := hs _ p5); (try have p5 := hs _ p4); (try have p4 := hs _ p3); (try have p3 := hs _ p2); (try have p2 := hs _ p1); (try have q1 := new1 hz); (try have p1 := new2 hz); (try have r1 := new3 hz); have n0 := hc (w.heap.size) 0 (by first | omega | (simp; omega) | (simp; done)); have n1 := hc (w.heap.size) 1 (by first | omega | (simp; omega) | (simp; done)); (first | simp [go_sem, m0, m1] at n0 n1 | simp [go_sem] at n0 n1); (try clear m0 m1); have m0 := n0; have m1 := n1; clear n0 n1)
            all_goals exact bodyPost_ret (v := rv (n') (d')) (by first | (simp [results, Try.results30, go_sem, m0, m1]; done) | (simp [results, Try.results30, go_sem]; done)) rfl ⟨ret_rp HL.out, (by repeat' (first | exact Below.refl _ _ | (refine Below.alloc ?_ ?_ _) | (refine Below.setCell ?_ ?_ _) | (refine Below.drew ?_) | (refine below_drewN ?_ _) | (refine Below.trans ?_ (Below.mono (by assumption) ?_)) | omega | (simp only [World.size_alloc, World.size_setCell, World.size_drew, size_drewN]; omega)))⟩
          · have hz' : (q == 0) = false := by simpa using hz
            have hz2 : (q != 0) = true := by simpa using hz
            go_wp2
            go_quiet (fail)
            go_wp2
            go_roundw
            case rel => exact ⟨q, p.tmod q, _, hq, hq', by have := tmod_in p q hz (by omega) (by omega); omega, by have := tmod_in p q hz (by omega) (by omega); omega, by rw [Hid, gcd_tmod]; exact hg.out, rfl, rfl, by rw [World.drewN_drewN]⟩
            case measure => exact tmod_lt p q hz
      · have HL := hide (low_no hN hD hr)
        have HE := hide (And.intro e1 e2)
        have HG : Hid ((Int.gcd n d : Int) = g) := by rw [Hid, ← hg]; try simp
        clear hN hD h hg e1 e2
        go_enter Try.func30, Try.ntmps30
        go_wp2
        go_loopw [5, 6] (fun x y wr => ∃ (p q : Int) (m : Nat), -9223372036854775807 ≤ p ∧ p ≤ 9223372036854775807 ∧ -9223372036854775807 ≤ q ∧ q ≤ 9223372036854775807 ∧ Hid ((Int.gcd p q : Int) = g) ∧ x = .int .i64 p ∧ y = .int .i64 q ∧ wr = (w.alloc (.cells #[.int .i64 0, .int .i64 0] 24)).drewN m) (fun _ y _ => (intOf y).natAbs)
        case atStart => exact ⟨n, d, 0, by omega, by omega, by omega, by omega, HG, rfl, rfl, rfl⟩
        case round =>
          obtain ⟨p, q, m, hp, hp', hq, hq', hg, rfl, rfl, rfl⟩ := hrel
          by_cases hz : q = 0
          · subst hz
            have HA : Hid ((p.natAbs : Int) = g) := by have := hg.out; simpa [Hid] using this
            have HB := hide hg; clear hg
            obtain ⟨e1, e2⟩ := HE.out
            go_wp2_with (go_at_call 43; refine (specAbs_at p g HA _ (by omega) (by omega)).mono ?_; rintro e w' ⟨rfl, rfl⟩)
            go_region
            all_goals go_wp2_with (go_at_call 25; refine (specIsRatio _ _ _).mono ?_; rintro e w1 ⟨rfl, hb⟩; obtain ⟨hc, hf⟩ := bcell hb; have hz := hb.size; (try simp only [World.size_alloc, World.size_setCell, World.size_drew, size_drewN] at hz); (first | have hs := up3 hz | have hs := up2 hz | have hs := up1 hz | have hs := up0 hz); (try have q10 := hs _ q9); (try have q9 := hs _ q8); (try have q8 := hs _ q7); (try have q7 := hs _ q6); (try have q6 := hs _ q5); (try have q5 := hs _ q4); (try have q4 := hs _ q3); (try have q3 := hs _ q2); (try have q2 := hs _ q1); (try have p7 := hs _ p6); (try have p6 := hs _ p5); (try have p5 := hs _ p4); (try have p4 := hs _ p3); (try have p3 := hs _ p2); (try have p2 := hs _ p1); (try have q1 := new1 hz); (try have p1 := new2 hz); (try have r1 := new3 hz); have n0 := hc (w.heap.size) 0 (by first | omega | (simp; omega) | (simp; done)); have n1 := hc (w.heap.size) 1 (by first | omega | (simp; omega) | (simp; done)); (first | simp [go_sem, m0, m1] at n0 n1 | simp [go_sem] at n0 n1); (try clear m0 m1); have m0 := n0; have m1 := n1; clear n0 n1)
            all_goals exact bodyPost_ret (v := rv (0) (0)) (by first | (simp [results, Try.results30, go_sem, m0, m1]; done) | (simp [results, Try.results30, go_sem]; done)) rfl ⟨ret_rp HL.out, (by repeat' (first | exact Below.refl _ _ | (refine Below.alloc ?_ ?_ _) | (refine Below.setCell ?_ ?_ _) | (refine Below.drew ?_) | (refine below_drewN ?_ _) | (refine Below.trans ?_ (Below.mono (by assumption) ?_)) | omega | (simp only [World.size_alloc, World.size_setCell, World.size_drew, size_drewN]; omega)))⟩
          · have hz' : (q == 0) = false := by simpa using hz
            have hz2 : (q != 0) = true := by simpa using hz
            go_wp2
            go_quiet (fail)
            go_wp2
            go_roundw
            case rel => exact ⟨q, p.tmod q, _, hq, hq', by have := tmod_in p q hz (by omega) (by omega); omega, by have := tmod_in p q hz (by omega) (by omega); omega, by rw [Hid, gcd_tmod]; exact hg.out, rfl, rfl, by rw [World.drewN_drewN]⟩
            case measure => exact tmod_lt p q hz
end Go.Proofs.Ytkoopheikdbliaa
