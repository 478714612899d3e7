/- The walk of FnExactCompareRatios. -/
import Derived.Test.YtdbklibjjgeibaaRatG
import Derived.Test.YtdbklibjjgeibaaKeep
import Derived.Deep.RegionHeld3
import Derived.Deep.DeepCutAuto
namespace Go.Proofs.Ytdbklibjjgeibaa
open Go.RowKit
set_option linter.unusedSimpArgs false
set_option linter.unusedVariables false
set_option maxHeartbeats 4000000 in
theorem walkFnExactCompareRatios (a0 : Int) (_la0 : -9223372036854775808 ≤ a0) (_ua0 : a0 ≤ 9223372036854775807) (b0 : Int) (_lb0 : -9223372036854775808 ≤ b0) (_ub0 : b0 ≤ 9223372036854775807) (a1 : Int) (_la1 : -9223372036854775808 ≤ a1) (_ua1 : a1 ≤ 9223372036854775807) (b1 : Int) (_lb1 : -9223372036854775808 ≤ b1) (_ub1 : b1 ≤ 9223372036854775807) (w : World) :
    Calls Try.prog 8 #[rv a0 b0, rv a1 b1] w fun e w' => e = .returned (.bool true) ∧ Below w.heap.size w w' := by
  clear _la0 _ua0 _lb0 _ub0 _la1 _ua1 _lb1 _ub1
  have e1 : ((cmpR a0 b0 a1 b1) != (cmpR a0 b0 a1 b1)) = false := by simp
  go_enter Try.func8, Try.ntmps8
  go_wp2_with fail
  go_cut [5] (fun s5 wx => s5 = .int .i64 (cmpR a0 b0 a1 b1) ∧ wx.cell? ⟨w.heap.size, 0, none⟩ = some (.int .i64 a0) ∧ wx.cell? ⟨w.heap.size, 1, none⟩ = some (.int .i64 b0) ∧ wx.cell? ⟨w.heap.size + 1, 0, none⟩ = some (.int .i64 a1) ∧ wx.cell? ⟨w.heap.size + 1, 1, none⟩ = some (.int .i64 b1) ∧ Below w.heap.size w wx)
  case first =>
    go_region_held3 (fun w' => w'.cell? ⟨w.heap.size, 0, none⟩ = some (.int .i64 a0) ∧ w'.cell? ⟨w.heap.size, 1, none⟩ = some (.int .i64 b0) ∧ w'.cell? ⟨w.heap.size + 1, 0, none⟩ = some (.int .i64 a1) ∧ w'.cell? ⟨w.heap.size + 1, 1, none⟩ = some (.int .i64 b1) ∧ Below w.heap.size w w')
      (first
        | exact kc4_call (by assumption) (by assumption)
        | exact kc4_alloc (by assumption)
        | (refine ⟨?_, ?_, ?_, ?_, ?_⟩ <;> first | assumption | (go_simp; done) | exact (by repeat' (first | exact Below.refl _ _ | (refine Below.alloc ?_ ?_ _) | (refine Below.setCell ?_ ?_ _) | (refine Below.drew ?_) | (refine below_drewN ?_ _) | (refine Below.trans ?_ (Below.mono (by assumption) ?_)) | omega | (simp only [World.size_alloc, World.size_setCell, World.size_drew, size_drewN]; omega)))))
      (first
        | (go_at_call 11; refine (toRatio _ _ _).mono ?_; rintro e w1 ⟨rfl, hb⟩; obtain ⟨hc, hf⟩ := bcell hb; have hz := hb.size; (try simp only [World.size_alloc, World.size_setCell, World.size_drew, size_drewN] at hz); (first | have hs := up3 hz | have hs := up2 hz | have hs := up1 hz | have hs := up0 hz); (try have q10 := hs _ q9); (try have q9 := hs _ q8); (try have q8 := hs _ q7); (try have q7 := hs _ q6); (try have q6 := hs _ q5); (try have q5 := hs _ q4); (try have q4 := hs _ q3); (try have q3 := hs _ q2); (try have q2 := hs _ q1); (try have p7 := hs _ p6); (try have p6 := hs _ p5); (try have p5 := hs _ p4); (try have p4 := hs _ p3); (try have p3 := hs _ p2); (try have p2 := hs _ p1); (try have q1 := new1 hz); (try have p1 := new2 hz); (try have r1 := new3 hz))
        | (go_at_call 22; refine (specCompareRatios _ _ _ _ _).mono ?_; rintro e w1 ⟨rfl, hb⟩; obtain ⟨hc, hf⟩ := bcell hb; have hz := hb.size; (try simp only [World.size_alloc, World.size_setCell, World.size_drew, size_drewN] at hz); (first | have hs := up3 hz | have hs := up2 hz | have hs := up1 hz | have hs := up0 hz); (try have q10 := hs _ q9); (try have q9 := hs _ q8); (try have q8 := hs _ q7); (try have q7 := hs _ q6); (try have q6 := hs _ q5); (try have q5 := hs _ q4); (try have q4 := hs _ q3); (try have q3 := hs _ q2); (try have q2 := hs _ q1); (try have p7 := hs _ p6); (try have p6 := hs _ p5); (try have p5 := hs _ p4); (try have p4 := hs _ p3); (try have p3 := hs _ p2); (try have p2 := hs _ p1); (try have q1 := new1 hz); (try have p1 := new2 hz); (try have r1 := new3 hz)))
    all_goals go_wp2_with fail
    all_goals go_meet
    all_goals exact ⟨rfl, by assumption⟩
  case rest =>
    obtain ⟨rfl, c0, c1, c2, c3, hB⟩ := hcut
    have p1 : w.heap.size + 1 < wc.heap.size := World.block_lt_of_cell? _ _ c2
    have p2 : w.heap.size < wc.heap.size := World.block_lt_of_cell? _ _ c0
    go_wp2_with fail
    go_cut [6] (fun s6 wx => s6 = .int .i64 (cmpR a0 b0 a1 b1) ∧ wx.cell? ⟨w.heap.size, 0, none⟩ = some (.int .i64 a0) ∧ wx.cell? ⟨w.heap.size, 1, none⟩ = some (.int .i64 b0) ∧ wx.cell? ⟨w.heap.size + 1, 0, none⟩ = some (.int .i64 a1) ∧ wx.cell? ⟨w.heap.size + 1, 1, none⟩ = some (.int .i64 b1) ∧ Below w.heap.size w wx)
    case first =>
      go_region_held3 (fun w' => w'.cell? ⟨w.heap.size, 0, none⟩ = some (.int .i64 a0) ∧ w'.cell? ⟨w.heap.size, 1, none⟩ = some (.int .i64 b0) ∧ w'.cell? ⟨w.heap.size + 1, 0, none⟩ = some (.int .i64 a1) ∧ w'.cell? ⟨w.heap.size + 1, 1, none⟩ = some (.int .i64 b1) ∧ Below w.heap.size w w')
        (first
          | exact kc4_call (by assumption) (by assumption)
          | exact kc4_alloc (by assumption)
          | (refine ⟨?_, ?_, ?_, ?_, ?_⟩ <;> first | assumption | (go_simp; done) | exact (by repeat' (first | exact Below.refl _ _ | (refine Below.alloc ?_ ?_ _) | (refine Below.setCell ?_ ?_ _) | (refine Below.drew ?_) | (refine below_drewN ?_ _) | (refine Below.trans ?_ (Below.mono (by assumption) ?_)) | omega | (simp only [World.size_alloc, World.size_setCell, World.size_drew, size_drewN]; omega)))))
        (first
          | (go_at_call 11; refine (toRatio _ _ _).mono ?_; rintro e w1 ⟨rfl, hb⟩; obtain ⟨hc, hf⟩ := bcell hb; have hz := hb.size; (try simp only [World.size_alloc, World.size_setCell, World.size_drew, size_drewN] at hz); (first | have hs := up3 hz | have hs := up2 hz | have hs := up1 hz | have hs := up0 hz); (try have q10 := hs _ q9); (try have q9 := hs _ q8); (try have q8 := hs _ q7); (try have q7 := hs _ q6); (try have q6 := hs _ q5); (try have q5 := hs _ q4); (try have q4 := hs _ q3); (try have q3 := hs _ q2); (try have q2 := hs _ q1); (try have p7 := hs _ p6); (try have p6 := hs _ p5); (try have p5 := hs _ p4); (try have p4 := hs _ p3); (try have p3 := hs _ p2); (try have p2 := hs _ p1); (try have q1 := new1 hz); (try have p1 := new2 hz); (try have r1 := new3 hz))
          | (go_at_call 23; refine (implCompareRatios _ _ _ _ _).mono ?_; rintro e w1 ⟨rfl, hb⟩; obtain ⟨hc, hf⟩ := bcell hb; have hz := hb.size; (try simp only [World.size_alloc, World.size_setCell, World.size_drew, size_drewN] at hz); (first | have hs := up3 hz | have hs := up2 hz | have hs := up1 hz | have hs := up0 hz); (try have q10 := hs _ q9); (try have q9 := hs _ q8); (try have q8 := hs _ q7); (try have q7 := hs _ q6); (try have q6 := hs _ q5); (try have q5 := hs _ q4); (try have q4 := hs _ q3); (try have q3 := hs _ q2); (try have q2 := hs _ q1); (try have p7 := hs _ p6); (try have p6 := hs _ p5); (try have p5 := hs _ p4); (try have p4 := hs _ p3); (try have p3 := hs _ p2); (try have p2 := hs _ p1); (try have q1 := new1 hz); (try have p1 := new2 hz); (try have r1 := new3 hz)))
      all_goals go_wp2_with fail
      all_goals go_meet
      all_goals exact ⟨rfl, by assumption⟩
    case rest =>
      obtain ⟨rfl, c0, c1, c2, c3, hB⟩ := hcut
      clear c0 c1 c2 c3
      go_wp2
      go_returns
      exact ⟨rfl, hB⟩
end Go.Proofs.Ytdbklibjjgeibaa
