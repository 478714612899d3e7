/- The walk of the reference's row exchange in place. -/
import Derived.Test.YthbmmoajfghjbaaOpW
namespace Go.Proofs.Ythbmmoajfghjbaa
open Go.RowKit
set_option linter.unusedSimpArgs false
set_option linter.unusedVariables false

/-- A box of a row operation. -/
def OpBox (w : World) (b : Nat) (k i j t : Int) : Prop := w.cell? ⟨b, 0, none⟩ = some (.int .i64 k) ∧ w.cell? ⟨b, 1, none⟩ = some (.int .i64 i) ∧ w.cell? ⟨b, 2, none⟩ = some (.int .i64 j) ∧ w.cell? ⟨b, 3, none⟩ = some (.int .i64 t)
namespace OpBox
variable {w w' : World} {b : Nat} {k i j t : Int}
theorem lt (h : OpBox w b k i j t) : b < w.heap.size := World.block_lt_of_cell? _ ⟨b, 0, none⟩ h.1
theorem of_block (h : OpBox w b k i j t) (e : w'.heap[b]? = w.heap[b]?) : OpBox w' b k i j t := by
  obtain ⟨h0, h1, h2, h3⟩ := h
  have hc : ∀ o, w'.cell? ⟨b, o, none⟩ = w.cell? ⟨b, o, none⟩ := fun o => World.cell?_of_block e
  exact ⟨(hc 0).trans h0, (hc 1).trans h1, (hc 2).trans h2, (hc 3).trans h3⟩
theorem call (h : OpBox w b k i j t) (hb : Below w.heap.size w w') : OpBox w' b k i j t := h.of_block (hb.block b h.lt)
theorem grown {g : Option Nat} (h : OpBox w b k i j t) (hg : w.grownBy w' g) (hne : some b ≠ g) : OpBox w' b k i j t := h.of_block (hg.block b h.lt hne)
theorem new (w : World) (n : Nat) (ty : TypeId) (hn : n = w.heap.size) : OpBox (w.alloc (.cells #[.int .i64 k, .int .i64 i, .int .i64 j, .int .i64 t] ty)) n k i j t := by
  subst hn
  refine ⟨?_, ?_, ?_, ?_⟩ <;> go_simp
end OpBox
set_option maxRecDepth 100000 in
set_option maxHeartbeats 8000000 in
theorem specDoSwap (R C i j : Nat) (g cap lo : Nat) (xs : List Int) (w : World) (hO : Own w lo (.slice (some ⟨g, 0, none⟩) (R * C) cap) xs) (hlx : xs.length = R * C) (HR : R ≤ 24) (HC : C ≤ 24) (hi : i < R) (hj : j < R) (hij : i ≠ j) :
    Calls Try.prog 33 #[mv R C (.slice (some ⟨g, 0, none⟩) (R * C) cap), opv 0 i j 0] w fun e w' => e = .returned (.tuple #[]) ∧ Own w' lo (.slice (some ⟨g, 0, none⟩) (R * C) cap) (opL R C 0 i j 0 xs) ∧ w.grownBy w' (some g) := by
  have hn : R * C ≤ 576 := Nat.mul_le_mul HR HC
  have hS := opTo_start (kind := 0) (i := i) (j := j) (t := 0) hlx
  have hE : tab (R * C) (opTo C 0 i j 0 xs C) = opL R C 0 i j 0 xs := opTo_end
  have HF : Hid (∀ k, k < C → (tab (R * C) (opTo C 0 i j 0 xs k)).set (i * C + k) (xs.getD (j * C + k) 0) = tab (R * C) (swTo C i j xs k)) := fun k _ => swTo_first
  have HG : Hid (∀ k, k < C → (tab (R * C) (swTo C i j xs k)).set (j * C + k) (xs.getD (i * C + k) 0) = tab (R * C) (opTo C 0 i j 0 xs (k + 1))) := fun k hk => swTo_second hij hk
  have HAT : Hid (∀ a k, k < C → opTo C 0 i j 0 xs k (a * C + k) = xs.getD (a * C + k) 0) := fun a k hk => opTo_at hk
  have HI : Hid (∀ k, k < C → i * C + k < R * C) := fun k hk => ix_lt hi hk
  have HJ : Hid (∀ k, k < C → j * C + k < R * C) := fun k hk => ix_lt hj hk
  have HNE : Hid (∀ k, k < C → i * C + k ≠ j * C + k) := fun k hk e => hij (ix_inj hk hk e).1
  rw [← hE]
  rw [hS] at hO
  have hgl := (Own.lt hO g rfl).2
  obtain ⟨N, hN⟩ : ∃ N, R * C = N := ⟨_, rfl⟩
  rw [hN] at hO hn HF HG HI HJ ⊢
  have HO := hide (Own.alloc (Own.alloc hO (.cells #[.int .i64 R, .int .i64 C, .slice (some ⟨g, 0, none⟩) N cap] 36)) (.cells #[.int .i64 0, .int .i64 i, .int .i64 j, .int .i64 0] 40))
  have HMB : Hid (Box3 ((w.alloc (.cells #[.int .i64 R, .int .i64 C, .slice (some ⟨g, 0, none⟩) N cap] 36)).alloc (.cells #[.int .i64 0, .int .i64 i, .int .i64 j, .int .i64 0] 40)) w.heap.size (.int .i64 R) (.int .i64 C) (.slice (some ⟨g, 0, none⟩) N cap)) := (Box3.new _ _ _ rfl).alloc _
  have HOB : Hid (OpBox ((w.alloc (.cells #[.int .i64 R, .int .i64 C, .slice (some ⟨g, 0, none⟩) N cap] 36)).alloc (.cells #[.int .i64 0, .int .i64 i, .int .i64 j, .int .i64 0] 40)) (w.heap.size + 1) 0 i j 0) := OpBox.new _ _ _ (by simp)
  have HGR : Hid (w.grownBy ((w.alloc (.cells #[.int .i64 R, .int .i64 C, .slice (some ⟨g, 0, none⟩) N cap] 36)).alloc (.cells #[.int .i64 0, .int .i64 i, .int .i64 j, .int .i64 0] 40)) (some g)) := grownBy_trans (World.grownBy_alloc w _ _) (World.grownBy_alloc _ _ _)
  clear hlx hS hE hN hO hij
  go_enter Try.func33, Try.ntmps33
  go_wp2_with fail
  go_loopw [4] (fun kv wr => ∃ k : Nat, k ≤ C ∧ kv = .int .i64 k ∧ Own wr lo (.slice (some ⟨g, 0, none⟩) N cap) (tab N (opTo C 0 i j 0 xs k)) ∧ Box3 wr w.heap.size (.int .i64 R) (.int .i64 C) (.slice (some ⟨g, 0, none⟩) N cap) ∧ OpBox wr (w.heap.size + 1) 0 i j 0 ∧ w.grownBy wr (some g)) (fun kv _ => C - (intOf kv).toNat)
  case atStart => exact ⟨0, Nat.zero_le _, rfl, HO.out, HMB.out, HOB.out, HGR.out⟩
  case round =>
    clear HO HMB HOB HGR
    obtain ⟨k, hk, rfl, ho, bx, ob, hg⟩ := hrel
    obtain ⟨wo, rfl⟩ : ∃ wo : World, wo = wr := ⟨_, rfl⟩
    have HO := hide ho
    have BX := hide bx
    have OB := hide ob
    have HGR := hide hg
    obtain ⟨⟨a0, a1, a2⟩, _⟩ := bx
    obtain ⟨b0, b1, b2, b3⟩ := ob
    clear ho hg
    by_cases hlt : k < C
    · have h1 := HI.out k hlt
      have h2 := HJ.out k hlt
      have hne := HNE.out k hlt
      have f1 := HF.out k hlt
      have f2 := HG.out k hlt
      have c1 := own_cell HO.out h1
      have c2 := own_cell HO.out h2
      rw [HAT.out i k hlt] at c1
      rw [HAT.out j k hlt] at c2
      have z1 := own_free HO.out (i * C + k)
      have z2 := own_free HO.out (j * C + k)
      obtain ⟨u, hu⟩ : ∃ u, xs.getD (i * C + k) 0 = u := ⟨_, rfl⟩
      obtain ⟨v, hv⟩ : ∃ v, xs.getD (j * C + k) 0 = v := ⟨_, rfl⟩
      rw [hu] at c1 f2
      rw [hv] at c2 f1
      have s1 := own_store HO.out f1
      have s2 := own_store s1.1 f2
      have e1 : (i : Int) * C + k = ((i * C + k : Nat) : Int) := by push_cast; rfl
      have e2 : (j : Int) * C + k = ((j * C + k : Nat) : Int) := by push_cast; rfl
      have i0 : 0 ≤ (i : Int) * C := Int.mul_nonneg (by omega) (by omega)
      have j0 : 0 ≤ (j : Int) * C := Int.mul_nonneg (by omega) (by omega)
      obtain ⟨d1, hd1⟩ : ∃ d, i * C + k = d := ⟨_, rfl⟩
      obtain ⟨d2, hd2⟩ : ∃ d, j * C + k = d := ⟨_, rfl⟩
      rw [hd1] at h1 hne c1 z1 s1 s2 e1
      rw [hd2] at h2 hne c2 z2 s2 e2
      have S1 := hide s1
      have S2 := hide s2
      have q1 : IntKind.i64.wrap ((i : Int) * C) = (i : Int) * C := IntWalk.i64_in _ (by omega)
      have q2 : IntKind.i64.wrap ((j : Int) * C) = (j : Int) * C := IntWalk.i64_in _ (by omega)
      have q3 : IntKind.i64.wrap (d1 : Int) = (d1 : Int) := IntWalk.i64_in _ (by omega)
      have q4 : IntKind.i64.wrap (d2 : Int) = (d2 : Int) := IntWalk.i64_in _ (by omega)
      have y1 : (0 : Int) ≤ (d1 : Int) := by omega
      have y2 : (0 : Int) ≤ (d2 : Int) := by omega
      have y3 : (d1 : Int) < (N : Int) := by omega
      have y4 : (d2 : Int) < (N : Int) := by omega
      have g1 : w.heap.size ≠ g := by omega
      have g2 : w.heap.size + 1 ≠ g := by omega
      have hne' : d2 ≠ d1 := fun e => hne e.symm
      clear f1 f2 s1 s2 hu hv hd1 hd2 i0 j0
      go_wp2_with fail
      go_roundw
      case rel => exact ⟨k + 1, by omega, by go_num, S2.out.1, (BX.out.grown S1.out.2 (by simpa using g1)).grown S2.out.2 (by simpa using g1), (OB.out.grown S1.out.2 (by simpa using g2)).grown S2.out.2 (by simpa using g2), grownBy_trans (grownBy_trans HGR.out S1.out.2) S2.out.2⟩
      case measure => simp [intOf]; omega
    · have hkk : k = C := by omega
      subst hkk
      go_wp2_with fail
      go_returns
      exact ⟨rfl, HO.out, HGR.out⟩
end Go.Proofs.Ythbmmoajfghjbaa
