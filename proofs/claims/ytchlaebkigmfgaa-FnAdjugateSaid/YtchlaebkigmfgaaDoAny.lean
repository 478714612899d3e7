/- The walk of the reference's row operation in place, whatever the numbers: only what it keeps. -/
import Derived.Test.YtchlaebkigmfgaaMulZ
import Derived.Test.YtchlaebkigmfgaaDrawM
import Derived.StillTailTactics
namespace Go.Proofs.Ytchlaebkigmfgaa
open Go.RowKit
set_option linter.unusedSimpArgs false
set_option linter.unusedVariables false
set_option maxRecDepth 100000 in
set_option maxHeartbeats 8000000 in
theorem specDoAny (R C i j : Nat) (kind t : Int) (g cap lo N : Nat) (f : Nat → Int) (w : World) (hO : Own w lo (.slice (some ⟨g, 0, none⟩) N cap) (tab N f)) (hN : R * C = N) (HR : R ≤ 24) (HC : C ≤ 24) (hi : i < R) (hj : j < R) :
    Calls Try.prog 49 #[mv R C (.slice (some ⟨g, 0, none⟩) N cap), opv kind i j t] w fun e w' => e = .returned (.tuple #[]) ∧ (∃ f' : Nat → Int, Own w' lo (.slice (some ⟨g, 0, none⟩) N cap) (tab N f')) ∧ w.grownBy w' (some g) := by
  have hn : N ≤ 576 := by rw [← hN]; exact Nat.mul_le_mul HR HC
  have HI : Hid (∀ k, k < C → i * C + k < N) := fun k hk => by rw [← hN]; exact ix_lt hi hk
  have HJ : Hid (∀ k, k < C → j * C + k < N) := fun k hk => by rw [← hN]; exact ix_lt hj hk
  have hgl := (Own.lt hO g rfl).2
  have HO := hide (Own.alloc (Own.alloc hO (.cells #[.int .i64 R, .int .i64 C, .slice (some ⟨g, 0, none⟩) N cap] 28)) (.cells #[.int .i64 kind, .int .i64 i, .int .i64 j, .int .i64 t] 51))
  have HMB : Hid (Box3 ((w.alloc (.cells #[.int .i64 R, .int .i64 C, .slice (some ⟨g, 0, none⟩) N cap] 28)).alloc (.cells #[.int .i64 kind, .int .i64 i, .int .i64 j, .int .i64 t] 51)) w.heap.size (.int .i64 R) (.int .i64 C) (.slice (some ⟨g, 0, none⟩) N cap)) := (Box3.new _ _ _ rfl).alloc _
  have HOB : Hid (OpBox ((w.alloc (.cells #[.int .i64 R, .int .i64 C, .slice (some ⟨g, 0, none⟩) N cap] 28)).alloc (.cells #[.int .i64 kind, .int .i64 i, .int .i64 j, .int .i64 t] 51)) (w.heap.size + 1) kind i j t) := OpBox.new _ _ _ (by simp)
  have HGR : Hid (w.grownBy ((w.alloc (.cells #[.int .i64 R, .int .i64 C, .slice (some ⟨g, 0, none⟩) N cap] 28)).alloc (.cells #[.int .i64 kind, .int .i64 i, .int .i64 j, .int .i64 t] 51)) (some g)) := grownBy_trans (World.grownBy_alloc w _ _) (World.grownBy_alloc _ _ _)
  clear hO hN
  go_enter Try.func49, Try.ntmps49
  go_wp2_with fail
  go_loopw [4] (fun kv wr => ∃ (k : Nat) (f : Nat → Int), k ≤ C ∧ kv = .int .i64 k ∧ Own wr lo (.slice (some ⟨g, 0, none⟩) N cap) (tab N f) ∧ Box3 wr w.heap.size (.int .i64 R) (.int .i64 C) (.slice (some ⟨g, 0, none⟩) N cap) ∧ OpBox wr (w.heap.size + 1) kind i j t ∧ w.grownBy wr (some g)) (fun kv _ => C - (intOf kv).toNat)
  case atStart => exact ⟨0, f, Nat.zero_le _, rfl, HO.out, HMB.out, HOB.out, HGR.out⟩
  case round =>
    clear HO HMB HOB HGR
    clear f
    obtain ⟨k, f, hk, rfl, ho, bx, ob, hg⟩ := hrel
    obtain ⟨wo, rfl⟩ : ∃ wo : World, wo = wr := ⟨_, rfl⟩
    have HO := hide ho
    have BX := hide bx
    have OB := hide ob
    have HGR := hide hg
    obtain ⟨⟨a0, a1, a2⟩, _⟩ := bx
    obtain ⟨b0, b1, b2, b3⟩ := ob
    clear ho hg
    by_cases hlt : k < C
    · have h1 := HI.out k hlt
      have h2 := HJ.out k hlt
      have c1 := own_cell HO.out h1
      have c2 := own_cell HO.out h2
      have z1 := own_free HO.out (i * C + k)
      have z2 := own_free HO.out (j * C + k)
      obtain ⟨u, hu⟩ : ∃ u, f (i * C + k) = u := ⟨_, rfl⟩
      obtain ⟨v, hv⟩ : ∃ v, f (j * C + k) = v := ⟨_, rfl⟩
      rw [hu] at c1
      rw [hv] at c2
      have e1 : (i : Int) * C + k = ((i * C + k : Nat) : Int) := by push_cast; rfl
      have e2 : (j : Int) * C + k = ((j * C + k : Nat) : Int) := by push_cast; rfl
      have i0 : 0 ≤ (i : Int) * C := Int.mul_nonneg (by omega) (by omega)
      have j0 : 0 ≤ (j : Int) * C := Int.mul_nonneg (by omega) (by omega)
      obtain ⟨d1, hd1⟩ : ∃ d, i * C + k = d := ⟨_, rfl⟩
      obtain ⟨d2, hd2⟩ : ∃ d, j * C + k = d := ⟨_, rfl⟩
      rw [hd1] at h1 c1 z1 e1
      rw [hd2] at h2 c2 z2 e2
      have q1 : IntKind.i64.wrap ((i : Int) * C) = (i : Int) * C := IntWalk.i64_in _ (by omega)
      have q2 : IntKind.i64.wrap ((j : Int) * C) = (j : Int) * C := IntWalk.i64_in _ (by omega)
      have q3 : IntKind.i64.wrap (d1 : Int) = (d1 : Int) := IntWalk.i64_in _ (by omega)
      have q4 : IntKind.i64.wrap (d2 : Int) = (d2 : Int) := IntWalk.i64_in _ (by omega)
      have y1 : (0 : Int) ≤ (d1 : Int) := by omega
      have y2 : (0 : Int) ≤ (d2 : Int) := by omega
      have y3 : (d1 : Int) < (N : Int) := by omega
      have y4 : (d2 : Int) < (N : Int) := by omega
      have g1 : w.heap.size ≠ g := by omega
      have g2 : w.heap.size + 1 ≠ g := by omega
      clear hu hv hd1 hd2 i0 j0
      by_cases k0 : kind = 0
      · have dk : (kind == 0) = true := by simpa using k0
        have S1 := hide (own_put HO.out d1 v)
        have S2 := hide (own_put S1.out.1 d2 u)
        have z3 := own_free S1.out.1 d2
        have c3 := own_cell S1.out.1 h2
        obtain ⟨v2, hv2⟩ : ∃ x, (if d2 = d1 then v else f d2) = x := ⟨_, rfl⟩
        rw [hv2] at c3
        clear k0 hv2
        go_wp2_with fail
        go_roundw
        case rel => exact ⟨k + 1, _, by omega, by go_num, S2.out.1, (BX.out.grown S1.out.2 (by simpa using g1)).grown S2.out.2 (by simpa using g1), (OB.out.grown S1.out.2 (by simpa using g2)).grown S2.out.2 (by simpa using g2), grownBy_trans (grownBy_trans HGR.out S1.out.2) S2.out.2⟩
        case measure => simp [intOf]; omega
      · have dk : (kind == 0) = false := by simpa using k0
        by_cases k1 : kind = 1
        · have dk1 : (kind == 1) = true := by simpa using k1
          clear k0 k1
          have S1 := hide (own_put HO.out d1 (mulZ u (-1)))
          go_wp2_with fail
          go_still_tail 12, (by kernel_rfl)
          still_call (specMulAny _ _ _)
          repeat still_step
          refine wpStill_nil ?_
          go_wp2_with fail
          go_roundw
          case rel => exact ⟨k + 1, _, by omega, by go_num, S1.out.1, Box3.drew (BX.out.grown S1.out.2 (by simpa using g1)), opBox_drew (OB.out.grown S1.out.2 (by simpa using g2)), drew_grown (grownBy_trans HGR.out S1.out.2)⟩
          case measure => simp [intOf]; omega
        · have dk1 : (kind == 1) = false := by simpa using k1
          clear k0 k1
          have S1 := hide (own_put HO.out d1 (addZ u (mulZ v t)))
          go_wp2_with fail
          go_still_tail 16, (by kernel_rfl)
          still_call (specMulAny _ _ _)
          still_call (specAddAny _ _ _)
          repeat still_step
          refine wpStill_nil ?_
          go_wp2_with fail
          go_roundw
          case rel => exact ⟨k + 1, _, by omega, by go_num, S1.out.1, Box3.drew (BX.out.grown S1.out.2 (by simpa using g1)), opBox_drew (OB.out.grown S1.out.2 (by simpa using g2)), drew_grown (grownBy_trans HGR.out S1.out.2)⟩
          case measure => simp [intOf]; omega
    · have hkk : k = C := by omega
      subst hkk
      go_wp2_with fail
      go_returns
      exact ⟨rfl, ⟨f, HO.out⟩, HGR.out⟩
end Go.Proofs.Ytchlaebkigmfgaa
