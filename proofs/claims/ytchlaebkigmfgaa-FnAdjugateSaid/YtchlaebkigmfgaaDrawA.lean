/- The draws of matrices: l3Any, l3Square. -/
import Derived.Test.YtchlaebkigmfgaaDrawM
import Derived.StillTailTactics
import Derived.Deep.DeepCutAuto
namespace Go.Proofs.Ytchlaebkigmfgaa
open Go.RowKit
set_option linter.unusedSimpArgs false
set_option linter.unusedVariables false
theorem Box3.kb {B : Nat} {w w' : World} {b p : Nat} {x y z : Value} (h : Box3 w b x y z) (hk : KB B w w' p) (hb : b < B) (hne : b ≠ p) : Box3 w' b x y z := h.of_block (hk.2.2.2.2.2 b hb hne)
set_option maxHeartbeats 8000000 in
theorem l3Square (p : Nat) (w : World) (hc : Cur w p) :
    Calls Try.prog 64 #[.pointer (some ⟨p, 0, none⟩)] w (DrawM w.heap.size w p) := by
  have hp := hc.lt
  have HK := hide ((KB.start hc).alloc (Nat.le_refl _) (.cells #[.int .i64 0, .int .i64 0, .slice none 0 0] 28))
  have B0 := hide (Box3.new (x := .int .i64 0) (y := .int .i64 0) (z := .slice none 0 0) w w.heap.size 28 rfl)
  clear hc
  go_enter Try.func64, Try.ntmps64
  go_wp2_with fail
  refine (l1Below p 5 _ HK.out.1 (by omega) (by omega)).mono ?_; rintro e w1 ⟨⟨x, rfl, x0, x1⟩, hk⟩
  obtain ⟨X, rfl⟩ := Int.eq_ofNat_of_zero_le x0
  have HK1 := hide (HK.out.kept (Nat.le_refl _) hk)
  have B1 := hide (Box3.kept B0.out hk (by omega))
  clear HK B0 hk x0
  have HK2 := HK1
  have B2 := B1
  clear HK1 B1
  have HK3 := hide (HK2.out.alloc (Nat.le_refl _) (.cells #[.int .i64 1, .int .i64 3, .int .i64 9] 3))
  have B3 := hide (B2.out.alloc (.cells #[.int .i64 1, .int .i64 3, .int .i64 9] 3))
  have z2 := B2.out.lt
  go_wp2_with fail
  refine (l1PickInt p w1.heap.size 3 3 _ HK3.out.1 (by omega) (by simp) (by omega) (by omega) ?_).mono ?_
  · intro k hk
    have hk' : k = 0 ∨ k = 1 ∨ k = 2 := by omega
    clear hk
    rcases hk' with rfl | rfl | rfl
    · exact ⟨1, by go_simp, by omega, by omega⟩
    · exact ⟨3, by go_simp, by omega, by omega⟩
    · exact ⟨9, by go_simp, by omega, by omega⟩
  rintro e w4 ⟨⟨most, rfl, _, _⟩, hk⟩
  have HK4 := hide (HK3.out.kept (Nat.le_refl _) hk)
  have B4 := hide (Box3.kept B3.out hk (by omega))
  clear HK2 HK3 B2 B3 hk
  obtain ⟨N, hN⟩ : ∃ N, X * X = N := ⟨_, rfl⟩
  have hN16 : N ≤ 16 := by rw [← hN]; exact Nat.mul_le_mul (show X ≤ 4 by omega) (show X ≤ 4 by omega)
  have z4 := B4.out.lt
  go_wp2_with fail
  refine (l3Draw p X X most N _ HK4.out.1 (by rw [Hid, ← hN]; push_cast; rfl) (by omega)).mono ?_; rintro e w5 ⟨⟨g, f, rfl, ho⟩, hk⟩
  have hgl := Own.lt ho g rfl
  have HK5 := hide ((HK4.out.trans (by omega) hk).alloc (Nat.le_refl _) (.cells #[.int .i64 X, .int .i64 X, .slice (some ⟨g, 0, none⟩) N N] 28))
  have B5 := hide ((B4.out.kb hk (by omega) (by omega)).alloc (.cells #[.int .i64 X, .int .i64 X, .slice (some ⟨g, 0, none⟩) N N] 28))
  have C5 := hide (Box3.new (x := .int .i64 X) (y := .int .i64 X) (z := .slice (some ⟨g, 0, none⟩) N N) w5 w5.heap.size 28 rfl)
  have HO5 := hide ((ho.mono (lo' := w.heap.size + 1) (by omega)).alloc (.cells #[.int .i64 X, .int .i64 X, .slice (some ⟨g, 0, none⟩) N N] 28))
  clear HK4 B4 hk ho
  obtain ⟨⟨c0, c1, c2⟩, _⟩ := C5.out
  by_cases hX : 1 < X
  · have dX : decide ((1 : Int) < (X : Int)) = true := decide_eq_true (by omega)
    go_wp2_with fail
    refine (l1Once p 6 _ HK5.out.1 (by omega) (by omega)).mono ?_; rintro e w6 ⟨⟨b, rfl⟩, hk⟩
    have HK6 := hide (HK5.out.kept (Nat.le_refl _) hk)
    have B6 := hide (Box3.kept B5.out hk (by omega))
    have C6 := hide (Box3.kept C5.out hk (by omega))
    have HO6 := hide (Own.kept1 HO5.out hk (by omega))
    clear HK5 B5 C5 hk c0 c1 c2
    obtain ⟨⟨c0, c1, c2⟩, _⟩ := C6.out
    cases b
    · go_wp2_with fail
      refine (l3Spoil p (w.heap.size + 1) X X (some ⟨g, 0, none⟩) N N _ _ HK6.out.1 HO6.out (by omega) (by have := HK6.out.2.1; have := B6.out.lt; omega) (by omega)).mono ?_; rintro e w8 ⟨⟨r', c', A', n', cap', ys, rfl, hn', ho⟩, hk⟩
      have v0 := hide (B6.out.kb hk (by omega) (by omega))
      have HKz := hide (HK6.out.trans (by omega) hk)
      have hlz := Own.lt ho
      have HOz := hide ho
      clear ho hk
      obtain ⟨⟨m0, m1, m2⟩, _⟩ := Box3.stored v0.out (.int .i64 r') (.int .i64 c') (.slice A' n' cap')
      obtain ⟨⟨c0, c1, c2⟩, f0, f1, f2⟩ := v0.out
      go_wp2
      exact bodyPost_ret (v := mv (r') (c') (.slice A' n' cap')) (by first | (simp [results, Try.results64, go_sem, m0, m1, m2]; done) | (simp [results, Try.results64, go_sem]; done)) rfl ⟨⟨_, _, _, _, _, _, rfl, hn', (((HOz.out.set (own_nl hlz (.inl (by dsimp only; omega))) _).set (own_nl hlz (.inl (by dsimp only; omega))) _).set (own_nl hlz (.inl (by dsimp only; omega))) _).mono (by omega)⟩, ((HKz.out.set (by dsimp only; omega) (by dsimp only; omega) _).set (by dsimp only; omega) (by dsimp only; omega) _).set (by dsimp only; omega) (by dsimp only; omega) _⟩
    · obtain ⟨Z, rfl⟩ : ∃ Z, X = Z + 1 := ⟨X - 1, by omega⟩
      have hD : (Z + 1) * (Z + 1) = N := hN
      have hD2 : (Z + 1) + (Z + 1) ≤ N := by rw [← hD, Nat.add_mul, Nat.one_mul]; have := Nat.mul_le_mul (show 1 ≤ Z by omega) (Nat.le_refl (Z + 1)); omega
      go_wp2_with fail
      go_loopw [5] (fun i wr => ∃ (k : Nat) (f : Nat → Int), k ≤ (Z + 1) ∧ i = .int .i64 k ∧ Own wr (w.heap.size + 1) (.slice (some ⟨g, 0, none⟩) N N) (tab N f) ∧
          Box3 wr w.heap.size (.int .i64 0) (.int .i64 0) (.slice none 0 0) ∧ Box3 wr w5.heap.size (.int .i64 (Z + 1 : Nat)) (.int .i64 ((Z + 1) : Nat)) (.slice (some ⟨g, 0, none⟩) N N) ∧ KB w.heap.size w wr p) (fun i _ => (Z + 1) - (intOf i).toNat)
      case atStart => exact ⟨0, _, Nat.zero_le _, rfl, HO6.out, B6.out, C6.out, HK6.out⟩
      case round =>

        clear HO6 HO5 B6 C6 HK6 c0 c1 c2
        clear f
        obtain ⟨k, f, hk, rfl, ho, b0, b1, hK⟩ := hrel
        have HO := hide ho
        have B7 := hide b0
        have C7 := hide b1
        have HK7 := hide hK
        clear ho b0 hK
        obtain ⟨⟨c0, c1, c2⟩, _⟩ := b1
        by_cases hlt : k < (Z + 1)
        · obtain ⟨q, hq⟩ : ∃ q, (Z + 1) + k = q := ⟨_, rfl⟩
          have v3 : IntKind.i64.wrap ((Z : Int) + 1 + (k : Int)) = (q : Int) := by rw [IntWalk.i64_in _ (by omega)]; omega
          have hce := own_cell HO.out (k := q) (by omega)
          have hck := own_cell HO.out (k := k) (by omega)
          have hfd := own_free HO.out k
          obtain ⟨x, hx⟩ : ∃ x, f q = x := ⟨_, rfl⟩
          rw [hx] at hce
          skip
          have HSO := hide (own_put HO.out k x)
          have z1 : (0 : Int) ≤ (k : Int) := by omega
          have z2' : (k : Int) < (N : Int) := by omega
          have z3 : (0 : Int) ≤ (q : Int) := by omega
          have z4' : (q : Int) < (N : Int) := by omega
          clear hx
          go_wp2
          go_still_tail 11, (by kernel_rfl)
          go_wp2
          go_roundw
          case rel => exact ⟨k + 1, _, by omega, by go_num, HSO.out.1, Box3.drew (B7.out.grown HSO.out.2 (by simp; omega)), Box3.drew (C7.out.grown HSO.out.2 (by simp; omega)), KB.drewN (HK7.out.grown (Nat.le_refl _) HSO.out.2 (by omega) (by omega)) 1⟩
          case measure => simp [intOf]; omega
        · go_wp2_with fail
          refine (l3Spoil p (w.heap.size + 1) (Z + 1 : Nat) ((Z + 1) : Nat) (some ⟨g, 0, none⟩) N N _ _ HK7.out.1 HO.out (by omega) (by have := HK7.out.2.1; have := B7.out.lt; omega) (by omega)).mono ?_; rintro e w8 ⟨⟨r', c', A', n', cap', ys, rfl, hn', ho⟩, hk⟩
          have v0 := hide (B7.out.kb hk (by omega) (by omega))
          have HKz := hide (HK7.out.trans (by omega) hk)
          have hlz := Own.lt ho
          have HOz := hide ho
          clear ho hk
          obtain ⟨⟨m0, m1, m2⟩, _⟩ := Box3.stored v0.out (.int .i64 r') (.int .i64 c') (.slice A' n' cap')
          obtain ⟨⟨c0, c1, c2⟩, f0, f1, f2⟩ := v0.out
          go_wp2
          exact bodyPost_ret (v := mv (r') (c') (.slice A' n' cap')) (by first | (simp [results, Try.results64, go_sem, m0, m1, m2]; done) | (simp [results, Try.results64, go_sem]; done)) rfl ⟨⟨_, _, _, _, _, _, rfl, hn', (((HOz.out.set (own_nl hlz (.inl (by dsimp only; omega))) _).set (own_nl hlz (.inl (by dsimp only; omega))) _).set (own_nl hlz (.inl (by dsimp only; omega))) _).mono (by omega)⟩, ((HKz.out.set (by dsimp only; omega) (by dsimp only; omega) _).set (by dsimp only; omega) (by dsimp only; omega) _).set (by dsimp only; omega) (by dsimp only; omega) _⟩
  · have dX : decide ((1 : Int) < (X : Int)) = false := decide_eq_false (by omega)
    go_wp2_with fail
    refine (l3Spoil p (w.heap.size + 1) X X (some ⟨g, 0, none⟩) N N _ _ HK5.out.1 HO5.out (by omega) (by have := HK5.out.2.1; have := B5.out.lt; omega) (by omega)).mono ?_; rintro e w8 ⟨⟨r', c', A', n', cap', ys, rfl, hn', ho⟩, hk⟩
    have v0 := hide (B5.out.kb hk (by omega) (by omega))
    have HKz := hide (HK5.out.trans (by omega) hk)
    have hlz := Own.lt ho
    have HOz := hide ho
    clear ho hk
    obtain ⟨⟨m0, m1, m2⟩, _⟩ := Box3.stored v0.out (.int .i64 r') (.int .i64 c') (.slice A' n' cap')
    obtain ⟨⟨c0, c1, c2⟩, f0, f1, f2⟩ := v0.out
    go_wp2
    exact bodyPost_ret (v := mv (r') (c') (.slice A' n' cap')) (by first | (simp [results, Try.results64, go_sem, m0, m1, m2]; done) | (simp [results, Try.results64, go_sem]; done)) rfl ⟨⟨_, _, _, _, _, _, rfl, hn', (((HOz.out.set (own_nl hlz (.inl (by dsimp only; omega))) _).set (own_nl hlz (.inl (by dsimp only; omega))) _).set (own_nl hlz (.inl (by dsimp only; omega))) _).mono (by omega)⟩, ((HKz.out.set (by dsimp only; omega) (by dsimp only; omega) _).set (by dsimp only; omega) (by dsimp only; omega) _).set (by dsimp only; omega) (by dsimp only; omega) _⟩
end Go.Proofs.Ytchlaebkigmfgaa
