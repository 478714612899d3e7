/- The walks of the laws' draws of numbers and ratios. -/
import Derived.Test.YtkoopheikdbliaaDrawR
import Derived.Test.YtkoopheikdbliaaBigW
namespace Go.Proofs.Ytkoopheikdbliaa
open Go.RowKit
set_option linter.unusedSimpArgs false
set_option linter.unusedVariables false
theorem drawGcd (A : Option Addr) (n cap : Nat) (w : World) (hs : SlB w w.heap.size A n) (hn : n ≤ 1048576) :
    Calls Try.prog 18 #[.slice A n cap] w (TwoI w) := by
  have HS := hide hs; clear hs
  go_enter Try.func18, Try.ntmps18
  go_wp2_with fail
  refine (l1Two A n cap _ HS.out hn).mono ?_; rintro e w1 ⟨⟨a, b, rfl, ha, hb⟩, hB⟩
  go_wp2_with fail
  go_returns
  exact ⟨⟨a, b, rfl, ha, hb⟩, hB⟩
def OneR (w : World) (e : Ending) (w' : World) : Prop := (∃ a b : Int, e = .returned (rv a b) ∧ (-9223372036854775808 ≤ a ∧ a ≤ 9223372036854775807) ∧ (-9223372036854775808 ≤ b ∧ b ≤ 9223372036854775807)) ∧ Below w.heap.size w w'
set_option maxHeartbeats 2000000 in
theorem drawRound (A : Option Addr) (n cap : Nat) (w : World) (hs : SlB w w.heap.size A n) (hn : n ≤ 1048576) :
    Calls Try.prog 22 #[.slice A n cap] w (OneR w) := by
  have hB0 : Below w.heap.size w (w.alloc (.cells #[.int .i64 0, .int .i64 0] 24)) := (by repeat' (first | exact Below.refl _ _ | (refine Below.alloc ?_ ?_ _) | (refine Below.setCell ?_ ?_ _) | (refine Below.drew ?_) | (refine below_drewN ?_ _) | (refine Below.trans ?_ (Below.mono (by assumption) ?_)) | omega | (simp only [World.size_alloc, World.size_setCell, World.size_drew, size_drewN]; omega)))
  have HS : Hid (SlB (w.alloc (.cells #[.int .i64 0, .int .i64 0] 24)) (w.alloc (.cells #[.int .i64 0, .int .i64 0] 24)).heap.size A n) := (hs.below hB0).mono hB0.size
  have HB0 := hide hB0
  clear hs hB0
  go_enter Try.func22, Try.ntmps22
  go_wp2_with fail
  refine (l1New A n cap _ HS.out hn).mono ?_; rintro e w1 ⟨rfl, hc, hb⟩
  simp only [World.size_alloc] at hc
  have HC := hide hc; clear hc
  have b0 := hide ((Box2.new (x := .int .i64 0) (y := .int .i64 0) w w.heap.size 24 rfl).call hb)
  have HB : Hid (Below w.heap.size w w1) := HB0.out.trans (hb.mono HB0.out.size)
  clear hb
  go_wp2_with fail
  refine (l2Any _ _ HC.out).mono ?_; rintro e w2 ⟨⟨a, b, rfl, ha, hb⟩, hk⟩
  have HK := hide hk
  have g0 := hide (b0.out.kept hk (by omega))
  clear hk b0
  obtain ⟨⟨y0, y1⟩, u0, u1⟩ := g0.out
  obtain ⟨⟨m0, m1⟩, _⟩ := g0.out.stored (.int .i64 a) (.int .i64 b)
  have HB3 := hide (HK.out.below HB.out (by omega) HB.out.size)
  go_wp2_with fail
  exact bodyPost_ret (v := rv a b) (by simp [results, Try.results22, go_sem, m0, m1]) rfl ⟨⟨a, b, rfl, ha, hb⟩, ((HB3.out.setCell (by dsimp only; omega) _).setCell (by dsimp only; omega) _)⟩
set_option maxHeartbeats 2000000 in
theorem drawAdd (A : Option Addr) (n cap : Nat) (w : World) (hs : SlB w w.heap.size A n) (hn : n ≤ 1048576) :
    Calls Try.prog 27 #[.slice A n cap] w (TwoR w) := by
  have hB0 : Below w.heap.size w ((w.alloc (.cells #[.int .i64 0, .int .i64 0] 24)).alloc (.cells #[.int .i64 0, .int .i64 0] 24)) := (by repeat' (first | exact Below.refl _ _ | (refine Below.alloc ?_ ?_ _) | (refine Below.setCell ?_ ?_ _) | (refine Below.drew ?_) | (refine below_drewN ?_ _) | (refine Below.trans ?_ (Below.mono (by assumption) ?_)) | omega | (simp only [World.size_alloc, World.size_setCell, World.size_drew, size_drewN]; omega)))
  have HS : Hid (SlB ((w.alloc (.cells #[.int .i64 0, .int .i64 0] 24)).alloc (.cells #[.int .i64 0, .int .i64 0] 24)) ((w.alloc (.cells #[.int .i64 0, .int .i64 0] 24)).alloc (.cells #[.int .i64 0, .int .i64 0] 24)).heap.size A n) := (hs.below hB0).mono hB0.size
  have HB0 := hide hB0
  clear hs hB0
  go_enter Try.func27, Try.ntmps27
  go_wp2_with fail
  refine (l2Two A n cap _ HS.out hn).mono ?_; rintro e w1 ⟨⟨a, b, c, d, rfl, ha, hb, hc, hd⟩, hB⟩
  have g0 := hide ((Box2.new (x := .int .i64 0) (y := .int .i64 0) w w.heap.size 24 rfl).alloc (.cells #[.int .i64 0, .int .i64 0] 24) |>.call hB)
  have g1 := hide ((Box2.new (x := .int .i64 0) (y := .int .i64 0) (w.alloc (.cells #[.int .i64 0, .int .i64 0] 24)) (w.heap.size + 1) 24 (by simp)).call hB)
  have HB : Hid (Below w.heap.size w w1) := HB0.out.trans (hB.mono HB0.out.size)
  clear hB
  obtain ⟨⟨y0, y1⟩, u0, u1⟩ := g0.out
  obtain ⟨⟨z0, z1⟩, v0, v1⟩ := g1.out
  have g2 := hide (((g1.out.set (p := ⟨w.heap.size, 0, none⟩) (by simp) (.int .i64 a)).set (p := ⟨w.heap.size, 1, none⟩) (by simp) (.int .i64 b)).stored (.int .i64 c) (.int .i64 d))
  have g3 := hide ((((g0.out.stored (.int .i64 a) (.int .i64 b)).set (p := ⟨w.heap.size + 1, 0, none⟩) (by simp) (.int .i64 c))).set (p := ⟨w.heap.size + 1, 1, none⟩) (by simp) (.int .i64 d))
  obtain ⟨⟨m0, m1⟩, _⟩ := g3.out
  obtain ⟨⟨n0, n1⟩, _⟩ := g2.out
  go_wp2_with fail
  exact bodyPost_ret (v := .tuple #[rv a b, rv c d]) (by simp [results, Try.results27, go_sem, m0, m1, n0, n1]) rfl ⟨⟨a, b, c, d, rfl, ha, hb, hc, hd⟩, ((((HB.out.setCell (by dsimp only; omega) _).setCell (by dsimp only; omega) _).setCell (by dsimp only; omega) _).setCell (by dsimp only; omega) _)⟩
end Go.Proofs.Ytkoopheikdbliaa
