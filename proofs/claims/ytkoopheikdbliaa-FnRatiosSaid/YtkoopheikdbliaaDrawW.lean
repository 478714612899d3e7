/- The walks of the draws. -/
import Derived.Test.YtkoopheikdbliaaCur
import Derived.WalkLawsBesides
import Derived.RegionTactic
import Derived.BigRegion
import Derived.ChangeAlike
namespace Go.Proofs.Ytkoopheikdbliaa
open Go.RowKit
set_option linter.unusedSimpArgs false
set_option linter.unusedVariables false

/-- Two numbers that a draw gives. -/
def TwoI (w : World) (e : Ending) (w' : World) : Prop := (∃ a b : Int, e = .returned (.tuple #[.int .i64 a, .int .i64 b]) ∧ (-9223372036854775808 ≤ a ∧ a ≤ 9223372036854775807) ∧ (-9223372036854775808 ≤ b ∧ b ≤ 9223372036854775807)) ∧ Below w.heap.size w w'
/-- A ratio that a draw gives. -/
def DrawR (w : World) (p : Nat) (e : Ending) (w' : World) : Prop := (∃ a b : Int, e = .returned (.agg #[.int .i64 a, .int .i64 b]) ∧ (-9223372036854775808 ≤ a ∧ a ≤ 9223372036854775807) ∧ (-9223372036854775808 ≤ b ∧ b ≤ 9223372036854775807)) ∧ Kept w w' p
set_option maxRecDepth 100000 in
set_option maxHeartbeats 1000000 in
theorem l1New (A : Option Addr) (n cap : Nat) (w : World) (hs : SlB w w.heap.size A n) (hn : n ≤ 1048576) :
    Calls Try.prog 38 #[.slice A n cap] w fun e w' => e = .returned (.pointer (some ⟨w.heap.size, 0, none⟩)) ∧ Cur w' w.heap.size ∧ Below w.heap.size w w' := by
  have HS := hide hs; clear hs
  go_enter Try.func38, Try.ntmps38
  go_wp2
  go_loop [3, 4] (fun h i => ∃ (k : Nat) (x : Int), k ≤ n ∧ i = .int .i64 k ∧ h = .int .i64 x ∧ 0 ≤ x ∧ x ≤ 1073741823) (fun _ i => n - (intOf i).toNat)
  case atStart => exact ⟨0, _, Nat.zero_le _, rfl, rfl, by omega, by omega⟩
  case round =>
    obtain ⟨k, x, hk, rfl, rfl, h0, h1⟩ := hrel
    by_cases hlt : k < n ∧ k < 4000
    · obtain ⟨hl1, hl2⟩ := hlt
      obtain ⟨g, off, rfl, hg, hc⟩ := HS.out (by omega)
      obtain ⟨y, hy, y0, y1⟩ := hc k hl1
      clear hc
      go_wp2
      go_round
      case rel => exact ⟨k + 1, _, by omega, by go_num, rfl, (and_in _ _ (by omega) (by omega)).1, (and_in _ _ (by omega) (by omega)).2⟩
      case measure => simp [intOf]; omega
    · by_cases hl : k < n
      · have hl2 : ¬ k < 4000 := fun h => hlt ⟨hl, h⟩
        clear hlt
        go_wp2
        go_returns
        refine ⟨rfl, ⟨A, n, cap, 0, x, ⟨by go_simp, by go_simp, by go_simp⟩, ⟨by go_simp, by go_simp⟩, by omega, hn, by omega, HS.out.below (by repeat' (first | exact Below.refl _ _ | (refine Below.alloc ?_ ?_ _) | (refine Below.setCell ?_ ?_ _) | (refine Below.drew ?_) | (refine below_drewN ?_ _) | (refine Below.trans ?_ (Below.mono (by assumption) ?_)) | omega | (simp only [World.size_alloc, World.size_setCell, World.size_drew, size_drewN]; omega)))⟩, (by repeat' (first | exact Below.refl _ _ | (refine Below.alloc ?_ ?_ _) | (refine Below.setCell ?_ ?_ _) | (refine Below.drew ?_) | (refine below_drewN ?_ _) | (refine Below.trans ?_ (Below.mono (by assumption) ?_)) | omega | (simp only [World.size_alloc, World.size_setCell, World.size_drew, size_drewN]; omega)))⟩
      · clear hlt
        go_wp2
        go_returns
        refine ⟨rfl, ⟨A, n, cap, 0, x, ⟨by go_simp, by go_simp, by go_simp⟩, ⟨by go_simp, by go_simp⟩, by omega, hn, by omega, HS.out.below (by repeat' (first | exact Below.refl _ _ | (refine Below.alloc ?_ ?_ _) | (refine Below.setCell ?_ ?_ _) | (refine Below.drew ?_) | (refine below_drewN ?_ _) | (refine Below.trans ?_ (Below.mono (by assumption) ?_)) | omega | (simp only [World.size_alloc, World.size_setCell, World.size_drew, size_drewN]; omega)))⟩, (by repeat' (first | exact Below.refl _ _ | (refine Below.alloc ?_ ?_ _) | (refine Below.setCell ?_ ?_ _) | (refine Below.drew ?_) | (refine below_drewN ?_ _) | (refine Below.trans ?_ (Below.mono (by assumption) ?_)) | omega | (simp only [World.size_alloc, World.size_setCell, World.size_drew, size_drewN]; omega)))⟩
set_option maxHeartbeats 2000000 in
theorem l1Byte (p : Nat) (w : World) (hc : Cur w p) :
    Calls Try.prog 50 #[.pointer (some ⟨p, 0, none⟩)] w (DrawI w p 0 255) := by
  obtain ⟨A, n, cap, i, h, hc⟩ := hc.at
  have HC := hide hc
  obtain ⟨⟨c0, c1, c2⟩, ⟨f1, f2⟩, hi, hn, hx, hs⟩ := hc
  have HS := hide hs; clear hs
  by_cases hlt : i < n
  · obtain ⟨g, off, rfl, hg, hcc⟩ := HS.out (by omega)
    obtain ⟨y, hy, y0, y1⟩ := hcc i hlt
    clear hcc
    have hi0 : (0 : Int) ≤ (i : Int) := by omega
    have hi1 : (i : Int) < (n : Int) := by omega
    have hd : decide ((i : Int) < (n : Int)) = true := decide_eq_true hi1
    have hgp : g ≠ p := by omega
    go_enter Try.func50, Try.ntmps50
    go_wp2
    go_quiet (fail)
    go_wp2
    go_quiet (fail)
    go_wp2
    go_quiet (fail)
    go_wp2
    go_ret
    refine ⟨⟨_, rfl, (and_in _ _ (by omega) (by omega)).1, (and_in _ _ (by omega) (by omega)).2⟩, ?_⟩
    exact kept_two' _ HC.out (w64_in _) hlt rfl
  · have hd : decide ((i : Int) < (n : Int)) = false := decide_eq_false (by omega)
    go_enter Try.func50, Try.ntmps50
    go_wp2
    go_quiet (fail)
    go_wp2
    go_quiet (fail)
    go_wp2
    go_ret
    refine ⟨⟨_, rfl, (and_in _ _ (by omega) (by omega)).1, (and_in _ _ (by omega) (by omega)).2⟩, ?_⟩
    exact ((kept_one HC.out (w64_in _)).drewN _).drewN _
theorem draw_lt {x n : Int} (h0 : 0 ≤ x) (hn : 0 < n) : 0 ≤ x % n ∧ x % n ≤ n - 1 := ⟨Int.emod_nonneg _ (by omega), by have := Int.emod_lt_of_pos x hn; omega⟩
set_option maxHeartbeats 2000000 in
theorem l1Below (p : Nat) (n : Int) (w : World) (hc : Cur w p) (hn : 1 ≤ n) (hn' : n ≤ 9223372036854775807) :
    Calls Try.prog 46 #[.pointer (some ⟨p, 0, none⟩), .int .i64 n] w (DrawI w p 0 (n - 1)) := by
  by_cases hs : n ≤ 256
  · have HK := hide hc; clear hc
    go_enter Try.func46, Try.ntmps46
    go_wp2_with (go_at_call 50; refine (l1Byte p _ HK.out).mono ?_; rintro e w1 ⟨⟨x, rfl, x0, x1⟩, hk⟩)
    go_returns
    exact ⟨⟨_, rfl, draw_lt x0 (by omega)⟩, hk⟩
  · have HK := hide (Kept.refl hc); clear hc
    go_enter Try.func46, Try.ntmps46
    go_wp2_with fail
    refine (l1Byte p _ HK.out.1).mono ?_; rintro e w1 ⟨⟨x, rfl, x0, x1⟩, hk⟩
    have HK1 := hide (HK.out.trans hk); clear hk
    go_wp2_with fail
    refine (l1Byte p _ HK1.out.1).mono ?_; rintro e w2 ⟨⟨y, rfl, y0, y1⟩, hk⟩
    have HK2 := hide (HK1.out.trans hk); clear hk
    go_wp2_with fail
    refine (l1Byte p _ HK2.out.1).mono ?_; rintro e w3 ⟨⟨z, rfl, z0, z1⟩, hk⟩
    have HK3 := hide (HK2.out.trans hk); clear hk
    go_wp2_with fail
    refine (l1Byte p _ HK3.out.1).mono ?_; rintro e w4 ⟨⟨v, rfl, v0, v1⟩, hk⟩
    have HK4 := hide (HK3.out.trans hk); clear hk
    go_wp2
    go_returns
    exact ⟨⟨_, rfl, draw_lt (by omega) (by omega)⟩, HK4.out⟩
theorem l1Below_none (p : Nat) (n : Int) (w : World) (hn : n ≤ 0) :
    Calls Try.prog 46 #[.pointer (some ⟨p, 0, none⟩), .int .i64 n] w fun e w' => e = .returned (.int .i64 0) ∧ w = w' := by
  go_enter Try.func46, Try.ntmps46
  go_wp2
  go_returns
  exact ⟨rfl, rfl⟩
/-- Whatever the bound. -/
theorem l1Below_any (p : Nat) (n : Int) (w : World) (hc : Cur w p) (hn' : n ≤ 9223372036854775807) :
    Calls Try.prog 46 #[.pointer (some ⟨p, 0, none⟩), .int .i64 n] w (DrawI w p 0 9223372036854775807) := by
  by_cases h : 1 ≤ n
  · refine (l1Below p n w hc h hn').mono ?_
    rintro e w' ⟨⟨x, rfl, x0, x1⟩, hk⟩
    exact ⟨⟨x, rfl, x0, by omega⟩, hk⟩
  · refine (l1Below_none p n w (by omega)).mono ?_
    rintro e w' ⟨rfl, rfl⟩
    exact ⟨⟨0, rfl, by omega, by omega⟩, Kept.refl hc⟩
theorem l1Once (p : Nat) (n : Int) (w : World) (hc : Cur w p) (hn : 1 ≤ n) (hn' : n ≤ 9223372036854775807) :
    Calls Try.prog 44 #[.pointer (some ⟨p, 0, none⟩), .int .i64 n] w (DrawB w p) := by
  have HK := hide hc; clear hc
  go_enter Try.func44, Try.ntmps44
  go_wp2_with (go_at_call 46; refine (l1Below p n _ HK.out hn hn').mono ?_; rintro e w1 ⟨⟨x, rfl, x0, x1⟩, hk⟩)
  go_returns
  exact ⟨⟨_, rfl⟩, hk⟩
set_option maxHeartbeats 1000000 in
/-- A list of numbers in a block of its own. -/
theorem l1PickInt (p g n cap : Nat) (w : World) (hc : Cur w p) (hg : g ≠ p) (hgl : g < w.heap.size) (hn : 1 ≤ n) (hn' : n ≤ 1000) (hl : ∀ k, k < n → ∃ x : Int, w.cell? ⟨g, k, none⟩ = some (.int .i64 x) ∧ -9223372036854775808 ≤ x ∧ x ≤ 9223372036854775807) :
    Calls Try.prog 48 #[.pointer (some ⟨p, 0, none⟩), .slice (some ⟨g, 0, none⟩) n cap] w (DrawI w p (-9223372036854775808) 9223372036854775807) := by
  have HK := hide hc; clear hc
  have HL := hide hl; clear hl
  go_enter Try.func48, Try.ntmps48
  go_wp2_with fail
  refine (l1Below p n _ HK.out (by omega) (by omega)).mono ?_; rintro e w1 ⟨⟨x, rfl, x0, x1⟩, hk⟩
  obtain ⟨k, rfl⟩ := Int.eq_ofNat_of_zero_le x0
  obtain ⟨y, hy, y0, y1⟩ := HL.out k (by omega)
  have hy1 : w1.cell? ⟨g, k, none⟩ = some (.int .i64 y) := (hk.2.cell hy (by simpa using hg))
  have hkn : k < n := by omega
  clear hy x0 x1
  have HK1 := hide hk; clear hk
  go_wp2
  go_returns
  exact ⟨⟨y, rfl, y0, y1⟩, HK1.out⟩
set_option maxRecDepth 100000 in
set_option maxHeartbeats 1000000 in
theorem l1Odd (p : Nat) (w : World) (hc : Cur w p) :
    Calls Try.prog 45 #[.pointer (some ⟨p, 0, none⟩)] w (DrawI w p (-9223372036854775808) 9223372036854775807) := by
  have hp := hc.lt
  have HK := hide hc; clear hc
  go_enter Try.func45, Try.ntmps45
  go_wp2_with fail
  have HK1 := hide ((Kept.refl HK.out).call ((Below.refl _ _).alloc (Nat.le_refl _) (.cells #[.int .i64 0, .int .i64 1, .int .i64 (-1), .int .i64 2, .int .i64 400000000, .int .i64 (-400000000), .int .i64 400000001, .int .i64 (-400000001), .int .i64 399999999, .int .i64 9223372036854775807, .int .i64 (-9223372036854775808)] 3)))
  refine (l1PickInt p w.heap.size 11 11 _ HK1.out.1 (by omega) (by simp) (by omega) (by omega) ?_).mono ?_
  · intro k hk
    have hk' : k = 0 ∨ k = 1 ∨ k = 2 ∨ k = 3 ∨ k = 4 ∨ k = 5 ∨ k = 6 ∨ k = 7 ∨ k = 8 ∨ k = 9 ∨ k = 10 := by omega
    clear hk
    rcases hk' with rfl | rfl | rfl | rfl | rfl | rfl | rfl | rfl | rfl | rfl | rfl
    · exact ⟨0, by go_simp, by omega, by omega⟩
    · exact ⟨1, by go_simp, by omega, by omega⟩
    · exact ⟨-1, by go_simp, by omega, by omega⟩
    · exact ⟨2, by go_simp, by omega, by omega⟩
    · exact ⟨400000000, by go_simp, by omega, by omega⟩
    · exact ⟨-400000000, by go_simp, by omega, by omega⟩
    · exact ⟨400000001, by go_simp, by omega, by omega⟩
    · exact ⟨-400000001, by go_simp, by omega, by omega⟩
    · exact ⟨399999999, by go_simp, by omega, by omega⟩
    · exact ⟨9223372036854775807, by go_simp, by omega, by omega⟩
    · exact ⟨-9223372036854775808, by go_simp, by omega, by omega⟩
  rintro e w1 ⟨⟨x, rfl, x0, x1⟩, hk⟩
  have HK2 := hide (HK1.out.trans hk); clear hk
  go_wp2
  go_returns
  exact ⟨⟨x, rfl, x0, x1⟩, HK2.out⟩
set_option maxHeartbeats 2000000 in
theorem l1Two (A : Option Addr) (n cap : Nat) (w : World) (hs : SlB w w.heap.size A n) (hn : n ≤ 1048576) :
    Calls Try.prog 33 #[.slice A n cap] w (TwoI w) := by
  have HS := hide hs; clear hs
  go_enter Try.func33, Try.ntmps33
  go_wp2_with fail
  refine (l1New A n cap _ HS.out hn).mono ?_; rintro e w1 ⟨rfl, hc, hb⟩
  have HC := hide hc; clear hc
  have HB := hide hb; clear hb
  go_wp2_with fail
  refine (l1Once _ 4 _ HC.out (by omega) (by omega)).mono ?_; rintro e w2 ⟨⟨b, rfl⟩, hk⟩
  have HK := hide hk; clear hk
  cases b
  · go_wp2_with fail
    refine (l1Below _ 400 _ HK.out.1 (by omega) (by omega)).mono ?_; rintro e w3 ⟨⟨x, rfl, x0, x1⟩, hk⟩
    have HK2 := hide (HK.out.trans hk); clear hk
    go_wp2_with fail
    refine (l1Below _ 80 _ HK2.out.1 (by omega) (by omega)).mono ?_; rintro e w4 ⟨⟨y, rfl, y0, y1⟩, hk⟩
    have HK3 := hide (HK2.out.trans hk); clear hk
    go_wp2
    go_returns
    exact ⟨⟨_, _, rfl, by omega, by omega⟩, HK3.out.below HB.out (Nat.le_refl _) HB.out.size⟩
  · go_wp2_with fail
    refine (l1Odd _ _ HK.out.1).mono ?_; rintro e w3 ⟨⟨x, rfl, x0, x1⟩, hk⟩
    have HK2 := hide (HK.out.trans hk); clear hk
    go_wp2_with fail
    refine (l1Odd _ _ HK2.out.1).mono ?_; rintro e w4 ⟨⟨y, rfl, y0, y1⟩, hk⟩
    have HK3 := hide (HK2.out.trans hk); clear hk
    go_wp2
    go_returns
    exact ⟨⟨_, _, rfl, by omega, by omega⟩, HK3.out.below HB.out (Nat.le_refl _) HB.out.size⟩
end Go.Proofs.Ytkoopheikdbliaa
