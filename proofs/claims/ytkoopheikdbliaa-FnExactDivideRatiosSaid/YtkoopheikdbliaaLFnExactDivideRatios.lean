/- The walk of FnExactDivideRatios. -/
import Derived.Test.YtkoopheikdbliaaRatF
import Derived.Test.YtkoopheikdbliaaKeep
import Derived.Deep.RegionHeld3
import Derived.Deep.DeepCutAuto
namespace Go.Proofs.Ytkoopheikdbliaa
open Go.RowKit
set_option linter.unusedSimpArgs false
set_option linter.unusedVariables false
set_option maxHeartbeats 4000000 in
theorem walkFnExactDivideRatios (a0 : Int) (_la0 : -9223372036854775808 ≤ a0) (_ua0 : a0 ≤ 9223372036854775807) (b0 : Int) (_lb0 : -9223372036854775808 ≤ b0) (_ub0 : b0 ≤ 9223372036854775807) (a1 : Int) (_la1 : -9223372036854775808 ≤ a1) (_ua1 : a1 ≤ 9223372036854775807) (b1 : Int) (_lb1 : -9223372036854775808 ≤ b1) (_ub1 : b1 ≤ 9223372036854775807) (w : World) :
    Calls Try.prog 4 #[rv a0 b0, rv a1 b1] w fun e w' => e = .returned (.bool true) ∧ Below w.heap.size w w' := by
  clear _la0 _ua0 _lb0 _ub0 _la1 _ua1 _lb1 _ub1
  go_enter Try.func4, Try.ntmps4
  go_wp2_with fail
  go_cut [5] (fun s5 wx => ∃ g1 : Nat, s5 = .pointer (some ⟨g1, 0, none⟩) ∧ w.heap.size + 2 ≤ g1 ∧ wx.cell? ⟨g1, 0, none⟩ = some (.int .i64 (divR' a0 b0 a1 b1).1) ∧ wx.cell? ⟨g1, 1, none⟩ = some (.int .i64 (divR' a0 b0 a1 b1).2) ∧ wx.cell? ⟨w.heap.size, 0, none⟩ = some (.int .i64 a0) ∧ wx.cell? ⟨w.heap.size, 1, none⟩ = some (.int .i64 b0) ∧ wx.cell? ⟨w.heap.size + 1, 0, none⟩ = some (.int .i64 a1) ∧ wx.cell? ⟨w.heap.size + 1, 1, none⟩ = some (.int .i64 b1) ∧ Below w.heap.size w wx)
  case first =>
    go_region_held3 (fun w' => w'.cell? ⟨w.heap.size, 0, none⟩ = some (.int .i64 a0) ∧ w'.cell? ⟨w.heap.size, 1, none⟩ = some (.int .i64 b0) ∧ w'.cell? ⟨w.heap.size + 1, 0, none⟩ = some (.int .i64 a1) ∧ w'.cell? ⟨w.heap.size + 1, 1, none⟩ = some (.int .i64 b1) ∧ Below w.heap.size w w')
      (first
        | exact kc4_call (by assumption) (by assumption)
        | exact kc4_alloc (by assumption)
        | exact kc4_set (by refine ⟨?_, ?_, ?_, ?_⟩ <;> (dsimp only; omega)) (by dsimp only; omega) (kc4_set (by refine ⟨?_, ?_, ?_, ?_⟩ <;> (dsimp only; omega)) (by dsimp only; omega) (by assumption))
        | exact kc4_swap (by omega) (by refine ⟨?_, ?_, ?_, ?_⟩ <;> (dsimp only; omega)) (by assumption)
        | (refine ⟨?_, ?_, ?_, ?_, ?_⟩ <;> first | assumption | (go_simp; done) | exact (by repeat' (first | exact Below.refl _ _ | (refine Below.alloc ?_ ?_ _) | (refine Below.setCell ?_ ?_ _) | (refine Below.drew ?_) | (refine below_drewN ?_ _) | (refine Below.trans ?_ (Below.mono (by assumption) ?_)) | omega | (simp only [World.size_alloc, World.size_setCell, World.size_drew, size_drewN]; omega)))))
      (first
        | (go_at_call 10; refine (toRatio _ _ _).mono ?_; rintro e w1 ⟨rfl, hb⟩; obtain ⟨hc, hf⟩ := bcell hb; have hz := hb.size; (try simp only [World.size_alloc, World.size_setCell, World.size_drew, size_drewN] at hz); (first | have hs := up3 hz | have hs := up2 hz | have hs := up1 hz | have hs := up0 hz); (try have q10 := hs _ q9); (try have q9 := hs _ q8); (try have q8 := hs _ q7); (try have q7 := hs _ q6); (try have q6 := hs _ q5); (try have q5 := hs _ q4); (try have q4 := hs _ q3); (try have q3 := hs _ q2); (try have q2 := hs _ q1); (try have p7 := hs _ p6); (try have p6 := hs _ p5); (try have p5 := hs _ p4); (try have p4 := hs _ p3); (try have p3 := hs _ p2); (try have p2 := hs _ p1); (try have q1 := new1 hz); (try have p1 := new2 hz); (try have r1 := new3 hz))
        | (go_at_call 13; refine (specDivideRatios _ _ _ _ _).mono ?_; rintro e w1 ⟨rfl, hb⟩; obtain ⟨hc, hf⟩ := bcell hb; have hz := hb.size; (try simp only [World.size_alloc, World.size_setCell, World.size_drew, size_drewN] at hz); (first | have hs := up3 hz | have hs := up2 hz | have hs := up1 hz | have hs := up0 hz); (try have q10 := hs _ q9); (try have q9 := hs _ q8); (try have q8 := hs _ q7); (try have q7 := hs _ q6); (try have q6 := hs _ q5); (try have q5 := hs _ q4); (try have q4 := hs _ q3); (try have q3 := hs _ q2); (try have q2 := hs _ q1); (try have p7 := hs _ p6); (try have p6 := hs _ p5); (try have p5 := hs _ p4); (try have p4 := hs _ p3); (try have p3 := hs _ p2); (try have p2 := hs _ p1); (try have q1 := new1 hz); (try have p1 := new2 hz); (try have r1 := new3 hz)))
    all_goals go_wp2_with fail
    all_goals go_meet
    all_goals (refine ⟨_, rfl, by omega, ?_, ?_, by assumption⟩ <;> (go_simp; done))
  case rest =>
    obtain ⟨g1, rfl, hg, r0, r1, c0, c1, c2, c3, hB⟩ := hcut
    have q1 : g1 < wc.heap.size := World.block_lt_of_cell? _ _ r0
    have p1 : w.heap.size + 1 < wc.heap.size := World.block_lt_of_cell? _ _ c2
    have p2 : w.heap.size < wc.heap.size := World.block_lt_of_cell? _ _ c0
    go_wp2_with fail
    go_cut [6] (fun s6 wx => ∃ g2 : Nat, s6 = .pointer (some ⟨g2, 0, none⟩) ∧ g1 + 1 ≤ g2 ∧ wx.cell? ⟨g2, 0, none⟩ = some (.int .i64 (divR' a0 b0 a1 b1).1) ∧ wx.cell? ⟨g2, 1, none⟩ = some (.int .i64 (divR' a0 b0 a1 b1).2) ∧ wx.cell? ⟨g1, 0, none⟩ = some (.int .i64 (divR' a0 b0 a1 b1).1) ∧ wx.cell? ⟨g1, 1, none⟩ = some (.int .i64 (divR' a0 b0 a1 b1).2) ∧ wx.cell? ⟨w.heap.size, 0, none⟩ = some (.int .i64 a0) ∧ wx.cell? ⟨w.heap.size, 1, none⟩ = some (.int .i64 b0) ∧ wx.cell? ⟨w.heap.size + 1, 0, none⟩ = some (.int .i64 a1) ∧ wx.cell? ⟨w.heap.size + 1, 1, none⟩ = some (.int .i64 b1) ∧ Below w.heap.size w wx)
    case first =>
      go_region_held3 (fun w' => w'.cell? ⟨g1, 0, none⟩ = some (.int .i64 (divR' a0 b0 a1 b1).1) ∧ w'.cell? ⟨g1, 1, none⟩ = some (.int .i64 (divR' a0 b0 a1 b1).2) ∧ w'.cell? ⟨w.heap.size, 0, none⟩ = some (.int .i64 a0) ∧ w'.cell? ⟨w.heap.size, 1, none⟩ = some (.int .i64 b0) ∧ w'.cell? ⟨w.heap.size + 1, 0, none⟩ = some (.int .i64 a1) ∧ w'.cell? ⟨w.heap.size + 1, 1, none⟩ = some (.int .i64 b1) ∧ Below w.heap.size w w')
        (first
          | exact kc6_call (by assumption) (by assumption)
          | exact kc6_alloc (by assumption)
          | exact kc6_set (by refine ⟨?_, ?_, ?_, ?_, ?_, ?_⟩ <;> (dsimp only; omega)) (by dsimp only; omega) (kc6_set (by refine ⟨?_, ?_, ?_, ?_, ?_, ?_⟩ <;> (dsimp only; omega)) (by dsimp only; omega) (by assumption))
          | exact kc6_swap (by omega) (by refine ⟨?_, ?_, ?_, ?_, ?_, ?_⟩ <;> (dsimp only; omega)) (by assumption)
          | (refine ⟨?_, ?_, ?_, ?_, ?_, ?_, ?_⟩ <;> first | assumption | (go_simp; done) | exact (by repeat' (first | exact Below.refl _ _ | (refine Below.alloc ?_ ?_ _) | (refine Below.setCell ?_ ?_ _) | (refine Below.drew ?_) | (refine below_drewN ?_ _) | (refine Below.trans ?_ (Below.mono (by assumption) ?_)) | omega | (simp only [World.size_alloc, World.size_setCell, World.size_drew, size_drewN]; omega)))))
        (first
          | (go_at_call 10; refine (toRatio _ _ _).mono ?_; rintro e w1 ⟨rfl, hb⟩; obtain ⟨hc, hf⟩ := bcell hb; have hz := hb.size; (try simp only [World.size_alloc, World.size_setCell, World.size_drew, size_drewN] at hz); (first | have hs := up3 hz | have hs := up2 hz | have hs := up1 hz | have hs := up0 hz); (try have q10 := hs _ q9); (try have q9 := hs _ q8); (try have q8 := hs _ q7); (try have q7 := hs _ q6); (try have q6 := hs _ q5); (try have q5 := hs _ q4); (try have q4 := hs _ q3); (try have q3 := hs _ q2); (try have q2 := hs _ q1); (try have p7 := hs _ p6); (try have p6 := hs _ p5); (try have p5 := hs _ p4); (try have p4 := hs _ p3); (try have p3 := hs _ p2); (try have p2 := hs _ p1); (try have q1 := new1 hz); (try have p1 := new2 hz); (try have r1 := new3 hz))
          | (go_at_call 14; refine (implDivideRatios _ _ _ _ _).mono ?_; rintro e w1 ⟨rfl, hb⟩; obtain ⟨hc, hf⟩ := bcell hb; have hz := hb.size; (try simp only [World.size_alloc, World.size_setCell, World.size_drew, size_drewN] at hz); (first | have hs := up3 hz | have hs := up2 hz | have hs := up1 hz | have hs := up0 hz); (try have q10 := hs _ q9); (try have q9 := hs _ q8); (try have q8 := hs _ q7); (try have q7 := hs _ q6); (try have q6 := hs _ q5); (try have q5 := hs _ q4); (try have q4 := hs _ q3); (try have q3 := hs _ q2); (try have q2 := hs _ q1); (try have p7 := hs _ p6); (try have p6 := hs _ p5); (try have p5 := hs _ p4); (try have p4 := hs _ p3); (try have p3 := hs _ p2); (try have p2 := hs _ p1); (try have q1 := new1 hz); (try have p1 := new2 hz); (try have r1 := new3 hz)))
      all_goals go_wp2_with fail
      all_goals go_meet
      all_goals (refine ⟨_, rfl, by omega, ?_, ?_, by assumption⟩ <;> (go_simp; done))
    case rest =>
      obtain ⟨g2, rfl, hg2, s0, s1, r0, r1, c0, c1, c2, c3, hB⟩ := hcut
      clear c0 c1 c2 c3
      go_wp2_with (go_at_call 12; refine (eqRatio_same _ _ _).mono ?_; rintro e w1 ⟨rfl, hb⟩)
      go_returns
      exact ⟨rfl, kb_call hB (Nat.le_refl _) (by assumption)⟩
end Go.Proofs.Ytkoopheikdbliaa
