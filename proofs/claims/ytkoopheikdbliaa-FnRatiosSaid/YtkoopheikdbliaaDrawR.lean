/- The walks of the draws of ratios. -/
import Derived.Test.YtkoopheikdbliaaDrawW
import Derived.Test.YtkoopheikdbliaaRatF
namespace Go.Proofs.Ytkoopheikdbliaa
open Go.RowKit
set_option linter.unusedSimpArgs false
set_option linter.unusedVariables false

/-- The end of a function that returns a ratio out of its box. -/
theorem kept_box {w w' : World} {b p : Nat} {x y : Value} (h : Kept w w' p) (hb : w.heap.size ≤ b) (hc : p < b) (hx : Box2 w' b x y) (x' y' : Value) : Kept w ((w'.setCell ⟨b, 0, none⟩ x').setCell ⟨b, 1, none⟩ y') p :=
  ⟨(h.1.set hc _).set hc _, ⟨h.2.os, h.2.tape, h.2.output, by simpa using h.2.size, fun k hk hne => by
    rw [Below.heap_setCell _ _ _ _ (by simp; omega), Below.heap_setCell _ _ _ _ (by simp; omega)]; exact h.2.block k hk hne⟩⟩
theorem makeR_in (n d : Int) : (-400000000 ≤ (makeR n d).1 ∧ (makeR n d).1 ≤ 400000000) ∧ (0 ≤ (makeR n d).2 ∧ (makeR n d).2 ≤ 400000000) := by
  unfold makeR low
  split
  · split
    · rename_i h
      simp only [lowOk, Bool.and_eq_true] at h
      have := isRatio_t h.2
      exact ⟨this.1, by simp only; omega⟩
    · simp
  · simp
set_option maxHeartbeats 4000000 in
theorem l2Any (p : Nat) (w : World) (hc : Cur w p) :
    Calls Try.prog 37 #[.pointer (some ⟨p, 0, none⟩)] w (DrawR w p) := by
  have hp := hc.lt
  have HK := hide ((Kept.refl hc).call ((Below.refl _ _).alloc (Nat.le_refl _) (.cells #[.int .i64 0, .int .i64 0] 24))); clear hc
  have HB := hide (Box2.new (x := .int .i64 0) (y := .int .i64 0) w w.heap.size 24 rfl)
  have hne : w.heap.size ≠ p := by omega
  go_enter Try.func37, Try.ntmps37
  go_wp2_with fail
  refine (l1Below p 12 _ HK.out.1 (by omega) (by omega)).mono ?_; rintro e w1 ⟨⟨x, rfl, x0, x1⟩, hk⟩
  have HB1 := hide (HB.out.kept hk hne)
  have HK1 := hide (HK.out.trans hk); clear hk
  by_cases e0 : x = 0
  · have d0 : (x == 0) = true := by simpa using e0
    obtain ⟨⟨m0, m1⟩, _⟩ := HB1.out.stored (.int .i64 0) (.int .i64 0)
    obtain ⟨⟨b0, b1⟩, f0, f1⟩ := HB1.out
    clear e0
    go_wp2_with fail
    exact bodyPost_ret (v := rv (0) (0)) (by first | (simp [results, Try.results37, go_sem, m0, m1]; done) | (simp [results, Try.results37, go_sem]; done)) rfl ⟨⟨0, 0, rfl, by omega, by omega⟩, kept_box HK1.out (Nat.le_refl _) hp HB1.out _ _⟩
  · have d0 : (x == 0) = false := by simpa using e0
    by_cases e1 : x = 1
    · have d1 : (x == 1) = true := by simpa using e1
      clear e0 e1
      go_wp2_with fail
      refine (l1Odd p _ HK1.out.1).mono ?_; rintro e w2 ⟨⟨y, rfl, y0, y1⟩, hk⟩
      have hz2 : w.heap.size < w2.heap.size := (HB1.out.kept hk hne).lt
      have HB2 := hide ((HB1.out.kept hk hne).alloc (.cells #[.int .i64 1, .int .i64 2, .int .i64 400000000, .int .i64 (-1), .int .i64 4] 3))
      have HK2 := hide ((HK1.out.trans hk).call ((Below.refl _ _).alloc (Nat.le_refl _) (.cells #[.int .i64 1, .int .i64 2, .int .i64 400000000, .int .i64 (-1), .int .i64 4] 3))); clear hk
      go_wp2_with fail
      refine (l1PickInt p w2.heap.size 5 5 _ HK2.out.1 (by omega) (by simp) (by omega) (by omega) ?_).mono ?_
      · intro k hk
        have hk' : k = 0 ∨ k = 1 ∨ k = 2 ∨ k = 3 ∨ k = 4 := by omega
        clear hk
        rcases hk' with rfl | rfl | rfl | rfl | rfl
        · exact ⟨1, by go_simp, by omega, by omega⟩
        · exact ⟨2, by go_simp, by omega, by omega⟩
        · exact ⟨400000000, by go_simp, by omega, by omega⟩
        · exact ⟨-1, by go_simp, by omega, by omega⟩
        · exact ⟨4, by go_simp, by omega, by omega⟩
      rintro e w3 ⟨⟨z, rfl, z0, z1⟩, hk⟩
      have HB3 := hide (HB2.out.kept hk hne)
      have HK3 := hide (HK2.out.trans hk); clear hk
      obtain ⟨⟨m0, m1⟩, _⟩ := HB3.out.stored (.int .i64 y) (.int .i64 z)
      obtain ⟨⟨b0, b1⟩, f0, f1⟩ := HB3.out
      go_wp2_with fail
      exact bodyPost_ret (v := rv (y) (z)) (by first | (simp [results, Try.results37, go_sem, m0, m1]; done) | (simp [results, Try.results37, go_sem]; done)) rfl ⟨⟨y, z, rfl, by omega, by omega⟩, kept_box HK3.out (Nat.le_refl _) hp HB3.out _ _⟩
    · have d1 : (x == 1) = false := by simpa using e1
      by_cases e2 : x = 2
      · have d2 : (x == 2) = true := by simpa using e2
        clear e0 e1 e2
        go_wp2_with fail
        refine (l1Below p 400000000 _ HK1.out.1 (by omega) (by omega)).mono ?_; rintro e w2 ⟨⟨y, rfl, y0, y1⟩, hk⟩
        have HB2 := hide (HB1.out.kept hk hne)
        have HK2 := hide (HK1.out.trans hk); clear hk
        go_wp2_with fail
        refine (l1Below p 400000000 _ HK2.out.1 (by omega) (by omega)).mono ?_; rintro e w3 ⟨⟨z, rfl, z0, z1⟩, hk⟩
        have HB3 := hide (HB2.out.kept hk hne)
        have HK3 := hide (HK2.out.trans hk); clear hk
        go_wp2_with fail
        refine (specMakeRatio _ _ _).mono ?_; rintro e w4 ⟨rfl, hb⟩
        have hr := makeR_in y (1 + z)
        generalize makeR y (1 + z) = q at *
        obtain ⟨qa, qb⟩ := q
        simp only at hr
        have HB4 := hide (HB3.out.call hb)
        have HK4 := hide (HK3.out.call hb); clear hb
        obtain ⟨⟨m0, m1⟩, _⟩ := HB4.out.stored (.int .i64 qa) (.int .i64 qb)
        obtain ⟨⟨b0, b1⟩, f0, f1⟩ := HB4.out
        go_wp2_with fail
        exact bodyPost_ret (v := rv (qa) (qb)) (by first | (simp [results, Try.results37, go_sem, m0, m1]; done) | (simp [results, Try.results37, go_sem]; done)) rfl ⟨⟨qa, qb, rfl, by omega, by omega⟩, kept_box HK4.out (Nat.le_refl _) hp HB4.out _ _⟩
      · have d2 : (x == 2) = false := by simpa using e2
        clear e0 e1 e2
        go_wp2_with fail
        refine (l1Below p 41 _ HK1.out.1 (by omega) (by omega)).mono ?_; rintro e w2 ⟨⟨y, rfl, y0, y1⟩, hk⟩
        have HB2 := hide (HB1.out.kept hk hne)
        have HK2 := hide (HK1.out.trans hk); clear hk
        go_wp2_with fail
        refine (l1Below p 12 _ HK2.out.1 (by omega) (by omega)).mono ?_; rintro e w3 ⟨⟨z, rfl, z0, z1⟩, hk⟩
        have HB3 := hide (HB2.out.kept hk hne)
        have HK3 := hide (HK2.out.trans hk); clear hk
        go_wp2_with fail
        refine (specMakeRatio _ _ _).mono ?_; rintro e w4 ⟨rfl, hb⟩
        have hr := makeR_in (y - 20) (1 + z)
        generalize makeR (y - 20) (1 + z) = q at *
        obtain ⟨qa, qb⟩ := q
        simp only at hr
        have HB4 := hide (HB3.out.call hb)
        have HK4 := hide (HK3.out.call hb); clear hb
        obtain ⟨⟨m0, m1⟩, _⟩ := HB4.out.stored (.int .i64 qa) (.int .i64 qb)
        obtain ⟨⟨b0, b1⟩, f0, f1⟩ := HB4.out
        go_wp2_with fail
        exact bodyPost_ret (v := rv (qa) (qb)) (by first | (simp [results, Try.results37, go_sem, m0, m1]; done) | (simp [results, Try.results37, go_sem]; done)) rfl ⟨⟨qa, qb, rfl, by omega, by omega⟩, kept_box HK4.out (Nat.le_refl _) hp HB4.out _ _⟩
/-- Two ratios that a draw gives. -/
def TwoR (w : World) (e : Ending) (w' : World) : Prop := (∃ a b c d : Int, e = .returned (.tuple #[rv a b, rv c d]) ∧ (-9223372036854775808 ≤ a ∧ a ≤ 9223372036854775807) ∧ (-9223372036854775808 ≤ b ∧ b ≤ 9223372036854775807) ∧ (-9223372036854775808 ≤ c ∧ c ≤ 9223372036854775807) ∧ (-9223372036854775808 ≤ d ∧ d ≤ 9223372036854775807)) ∧ Below w.heap.size w w'
set_option maxHeartbeats 2000000 in
theorem l2Two (A : Option Addr) (n cap : Nat) (w : World) (hs : SlB w w.heap.size A n) (hn : n ≤ 1048576) :
    Calls Try.prog 42 #[.slice A n cap] w (TwoR w) := by
  have hB0 : Below w.heap.size w ((w.alloc (.cells #[.int .i64 0, .int .i64 0] 24)).alloc (.cells #[.int .i64 0, .int .i64 0] 24)) := (by repeat' (first | exact Below.refl _ _ | (refine Below.alloc ?_ ?_ _) | (refine Below.setCell ?_ ?_ _) | (refine Below.drew ?_) | (refine below_drewN ?_ _) | (refine Below.trans ?_ (Below.mono (by assumption) ?_)) | omega | (simp only [World.size_alloc, World.size_setCell, World.size_drew, size_drewN]; omega)))
  have HS : Hid (SlB ((w.alloc (.cells #[.int .i64 0, .int .i64 0] 24)).alloc (.cells #[.int .i64 0, .int .i64 0] 24)) ((w.alloc (.cells #[.int .i64 0, .int .i64 0] 24)).alloc (.cells #[.int .i64 0, .int .i64 0] 24)).heap.size A n) := (hs.below hB0).mono hB0.size
  have HB0 := hide hB0
  clear hs hB0
  go_enter Try.func42, Try.ntmps42
  go_wp2_with fail
  refine (l1New A n cap _ HS.out hn).mono ?_; rintro e w1 ⟨rfl, hc, hb⟩
  simp only [World.size_alloc] at hc
  have HC := hide hc; clear hc
  have b0 := hide ((Box2.new (x := .int .i64 0) (y := .int .i64 0) w w.heap.size 24 rfl).alloc (.cells #[.int .i64 0, .int .i64 0] 24) |>.call hb)
  have b1 := hide ((Box2.new (x := .int .i64 0) (y := .int .i64 0) (w.alloc (.cells #[.int .i64 0, .int .i64 0] 24)) (w.heap.size + 1) 24 (by simp)).call hb)
  have HB : Hid (Below w.heap.size w w1) := HB0.out.trans (hb.mono HB0.out.size)
  clear hb
  go_wp2_with fail
  refine (l2Any _ _ HC.out).mono ?_; rintro e w2 ⟨⟨a, b, rfl, ha, hb⟩, hk⟩
  have HK := hide hk
  have d0 := hide (b0.out.kept hk (by omega))
  have d1 := hide (b1.out.kept hk (by omega))
  clear hk
  go_wp2_with fail
  refine (l2Any _ _ HK.out.1).mono ?_; rintro e w3 ⟨⟨c, d, rfl, hc, hd⟩, hk⟩
  have HK2 := hide (HK.out.trans hk)
  have g0 := hide (d0.out.kept hk (by omega))
  have g1 := hide (d1.out.kept hk (by omega))
  clear hk b0 b1 d0 d1 HK
  obtain ⟨⟨y0, y1⟩, u0, u1⟩ := g0.out
  obtain ⟨⟨z0, z1⟩, v0, v1⟩ := g1.out
  have g2 := hide (((g1.out.set (p := ⟨w.heap.size, 0, none⟩) (by simp) (.int .i64 a)).set (p := ⟨w.heap.size, 1, none⟩) (by simp) (.int .i64 b)).stored (.int .i64 c) (.int .i64 d))
  have g3 := hide ((((g0.out.stored (.int .i64 a) (.int .i64 b)).set (p := ⟨w.heap.size + 1, 0, none⟩) (by simp) (.int .i64 c))).set (p := ⟨w.heap.size + 1, 1, none⟩) (by simp) (.int .i64 d))
  obtain ⟨⟨m0, m1⟩, _⟩ := g3.out
  obtain ⟨⟨n0, n1⟩, _⟩ := g2.out
  have HB3 := hide (HK2.out.below HB.out (by omega) HB.out.size)
  go_wp2_with fail
  exact bodyPost_ret (v := .tuple #[rv a b, rv c d]) (by simp [results, Try.results42, go_sem, m0, m1, n0, n1]) rfl ⟨⟨a, b, c, d, rfl, ha, hb, hc, hd⟩, ((((HB3.out.setCell (by dsimp only; omega) _).setCell (by dsimp only; omega) _).setCell (by dsimp only; omega) _).setCell (by dsimp only; omega) _)⟩
end Go.Proofs.Ytkoopheikdbliaa
