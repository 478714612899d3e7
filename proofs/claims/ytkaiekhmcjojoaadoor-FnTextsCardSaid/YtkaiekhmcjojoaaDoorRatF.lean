/- The walks of the functions that make ratios. -/
import Derived.Test.YtkaiekhmcjojoaaDoorRatW
namespace Go.Proofs.YtkaiekhmcjojoaaDoor
open Go.RowKit
set_option linter.unusedSimpArgs false
set_option linter.unusedVariables false

theorem ret_eq {n d : Int} {p : Int × Int} (h : p = (n, d)) : Ending.returned (rv p.1 p.2) = .returned (rv n d) := by rw [h]
theorem ret_pp {p q : Int × Int} (h : p = q) : Ending.returned (rv p.1 p.2) = .returned (rv q.1 q.2) := by rw [h]
/-- A ratio's parts are small, whatever was made. -/
theorem low_in (n d : Int) : -400000000 ≤ (low n d).1 ∧ (low n d).1 ≤ 400000000 ∧ 0 ≤ (low n d).2 ∧ (low n d).2 ≤ 400000000 := by
  unfold low
  split
  · rename_i h
    simp only [lowOk, Bool.and_eq_true] at h
    have := isRatio_t h.2
    exact ⟨this.1.1, this.1.2, by have := this.2.1.1; omega, this.2.1.2⟩
  · simp


theorem specMakeRatio (n d : Int) (w : World) :
    Calls Tryd.prog 34 #[.int .i64 n, .int .i64 d] w fun e w' => e = .returned (rv (makeR n d).1 (makeR n d).2) ∧ Below w.heap.size w w' := by
  rcases Bool.eq_false_or_eq_true (isNum n) with h1 | h1
  · rcases Bool.eq_false_or_eq_true (isNum d) with h2 | h2
    · have g1 := isNum_t h1
      have g2 := isNum_t h2
      have HL : Hid (makeR n d = low n d) := by simp [Hid, makeR, h1, h2]
      go_enter Tryd.func34, Tryd.ntmps34
      go_wp2_with (first | (go_at_call 29; refine (specIsNumber _ _).mono ?_; rintro e w' ⟨rfl, rfl⟩) | (go_at_call 65; refine (specL2Make _ _ _ (by omega) (by omega) (by omega) (by omega)).mono ?_; rintro e w1 ⟨rfl, hb⟩; obtain ⟨hc, hf⟩ := bcell hb; have hz := hb.size; (try simp only [World.size_alloc, World.size_setCell, World.size_drew, size_drewN] at hz); (first | have hs := up3 hz | have hs := up2 hz | have hs := up1 hz | have hs := up0 hz); (try have q10 := hs _ q9); (try have q9 := hs _ q8); (try have q8 := hs _ q7); (try have q7 := hs _ q6); (try have q6 := hs _ q5); (try have q5 := hs _ q4); (try have q4 := hs _ q3); (try have q3 := hs _ q2); (try have q2 := hs _ q1); (try have p7 := hs _ p6); (try have p6 := hs _ p5); (try have p5 := hs _ p4); (try have p4 := hs _ p3); (try have p3 := hs _ p2); (try have p2 := hs _ p1); (try have q1 := new1 hz); (try have p1 := new2 hz); (try have r1 := new3 hz); have n0 := hc (w.heap.size) 0 (by first | omega | (simp; omega) | (simp; done)); have n1 := hc (w.heap.size) 1 (by first | omega | (simp; omega) | (simp; done)); (first | simp [go_sem, m0, m1] at n0 n1 | simp [go_sem] at n0 n1); (try clear m0 m1); have m0 := n0; have m1 := n1; clear n0 n1))
      exact bodyPost_ret (v := rv ((low n d).1) ((low n d).2)) (by first | (simp [results, Tryd.results34, go_sem, m0, m1]; done) | (simp [results, Tryd.results34, go_sem]; done)) rfl ⟨ret_pp HL.out.symm, (by repeat' (first | exact Below.refl _ _ | (refine Below.alloc ?_ ?_ _) | (refine Below.setCell ?_ ?_ _) | (refine Below.drew ?_) | (refine below_drewN ?_ _) | (refine Below.trans ?_ (Below.mono (by assumption) ?_)) | omega | (simp only [World.size_alloc, World.size_setCell, World.size_drew, size_drewN]; omega)))⟩
    · have HL : Hid (makeR n d = (0, 0)) := by simp [Hid, makeR, h2]
      go_enter Tryd.func34, Tryd.ntmps34
      go_wp2_with (first | (go_at_call 29; refine (specIsNumber _ _).mono ?_; rintro e w' ⟨rfl, rfl⟩))
      exact bodyPost_ret (v := rv (0) (0)) (by first | (simp [results, Tryd.results34, go_sem, m0, m1]; done) | (simp [results, Tryd.results34, go_sem]; done)) rfl ⟨ret_rp HL.out, (by repeat' (first | exact Below.refl _ _ | (refine Below.alloc ?_ ?_ _) | (refine Below.setCell ?_ ?_ _) | (refine Below.drew ?_) | (refine below_drewN ?_ _) | (refine Below.trans ?_ (Below.mono (by assumption) ?_)) | omega | (simp only [World.size_alloc, World.size_setCell, World.size_drew, size_drewN]; omega)))⟩
  · have HL : Hid (makeR n d = (0, 0)) := by simp [Hid, makeR, h1]
    go_enter Tryd.func34, Tryd.ntmps34
    go_wp2_with (first | (go_at_call 29; refine (specIsNumber _ _).mono ?_; rintro e w' ⟨rfl, rfl⟩))
    exact bodyPost_ret (v := rv (0) (0)) (by first | (simp [results, Tryd.results34, go_sem, m0, m1]; done) | (simp [results, Tryd.results34, go_sem]; done)) rfl ⟨ret_rp HL.out, (by repeat' (first | exact Below.refl _ _ | (refine Below.alloc ?_ ?_ _) | (refine Below.setCell ?_ ?_ _) | (refine Below.drew ?_) | (refine below_drewN ?_ _) | (refine Below.trans ?_ (Below.mono (by assumption) ?_)) | omega | (simp only [World.size_alloc, World.size_setCell, World.size_drew, size_drewN]; omega)))⟩







end Go.Proofs.YtkaiekhmcjojoaaDoor
