/- The draws of matrices: l6Unimodular. -/
import Derived.Test.YtchlaebkigmfgaaDrawA
import Derived.Test.YtchlaebkigmfgaaDoAny
import Derived.Test.YtchlaebkigmfgaaIdW
namespace Go.Proofs.Ytchlaebkigmfgaa
open Go.RowKit
set_option linter.unusedSimpArgs false
set_option linter.unusedVariables false
/-- As DrawM, with a bound on the length. -/
def DrawMB (m B : Nat) (W : World) (p : Nat) (e : Ending) (w' : World) : Prop :=
  (∃ (r c : Int) (A : Option Addr) (n cap : Nat) (xs : List Int), e = .returned (mv r c (.slice A n cap)) ∧ n ≤ m ∧ Own w' B (.slice A n cap) xs) ∧ KB B W w' p
set_option maxRecDepth 100000 in
set_option maxHeartbeats 8000000 in
theorem l6Unimodular (p n : Nat) (w : World) (hc : Cur w p) (hn : n ≤ 24) :
    Calls Try.prog 83 #[.pointer (some ⟨p, 0, none⟩), .int .i64 n] w (DrawMB 576 w.heap.size w p) := by
  have hp := hc.lt
  have HK := hide ((KB.start hc).alloc (Nat.le_refl _) (.cells #[.int .i64 0, .int .i64 0, .slice none 0 0] 28))
  have B0 := hide (Box3.new (x := .int .i64 0) (y := .int .i64 0) (z := .slice none 0 0) w w.heap.size 28 rfl)
  clear hc
  have hNN : (idTo n n).length = n * n := idTo_length n n
  have si := specIdentity_yes n hn
  generalize idTo n n = L0 at *
  obtain ⟨N, hN⟩ : ∃ N, n * n = N := ⟨_, rfl⟩
  have hN6 : N ≤ 576 := by rw [← hN]; exact Nat.mul_le_mul hn hn
  rw [hN] at hNN
  have SI := hide si
  have HNN := hide hNN
  clear si hNN
  go_enter Try.func83, Try.ntmps83
  go_wp2_with fail
  refine (SI.out _).mono ?_; rintro e w1 ⟨s, rfl, ho, hb⟩
  obtain ⟨A, cap, rfl, _⟩ := Own.sl ho
  rw [HNN.out] at ho ⊢
  simp only [World.size_alloc] at ho
  have HO1 := hide (ho.alloc (.cells #[.int .i64 n, .int .i64 n, .slice A N cap] 28))
  have HK1 := hide ((HK.out.call (Nat.le_refl _) hb).alloc (Nat.le_refl _) (.cells #[.int .i64 n, .int .i64 n, .slice A N cap] 28))
  have B1 := hide ((B0.out.call hb).alloc (.cells #[.int .i64 n, .int .i64 n, .slice A N cap] 28))
  have M1 := hide (Box3.new (x := .int .i64 n) (y := .int .i64 n) (z := .slice A N cap) w1 w1.heap.size 28 rfl)
  have hl1 := Own.lt ho
  have z1 := hb.size
  simp only [World.size_alloc] at z1
  clear ho hb HK B0 SI
  go_wp2_with fail
  refine (l1Below p 6 _ HK1.out.1 (by omega) (by omega)).mono ?_; rintro e w2 ⟨⟨x, rfl, x0, x1⟩, hk⟩
  obtain ⟨K, rfl⟩ := Int.eq_ofNat_of_zero_le x0
  have HO2 : Hid (Own w2 (w.heap.size + 1) (.slice A N cap) (tab N fun i => L0.getD i 0)) := by rw [Hid, ← HNN.out, tab_self, HNN.out]; exact Own.keptB HO1.out hk (by omega)
  have HK2 := hide (HK1.out.kept (Nat.le_refl _) hk)
  have B2 := hide (Box3.kept B1.out hk (by omega))
  have M2 := hide (Box3.kept M1.out hk (by omega))
  clear HO1 HK1 B1 M1 hk x0
  go_wp2_with fail
  go_loopw [7] (fun kv wr => ∃ (k : Nat) (f : Nat → Int), kv = .int .i64 k ∧ k ≤ 5 ∧ Own wr (w.heap.size + 1) (.slice A N cap) (tab N f) ∧
      Box3 wr w.heap.size (.int .i64 0) (.int .i64 0) (.slice none 0 0) ∧ Box3 wr w1.heap.size (.int .i64 n) (.int .i64 n) (.slice A N cap) ∧ KB w.heap.size w wr p) (fun kv _ => (intOf kv).toNat)
  case atStart => exact ⟨K, _, rfl, by omega, HO2.out, B2.out, M2.out, HK2.out⟩
  case round =>
    clear HO2 HK2 B2 M2
    obtain ⟨k, f, rfl, hk5, ho, b0, bm, hK⟩ := hrel
    have HO := hide ho
    have B3 := hide b0
    have M3 := hide bm
    have HK3 := hide hK
    clear ho b0 hK
    obtain ⟨⟨c0, c1, c2⟩, _⟩ := bm
    have z3 := HK3.out.size
    by_cases hgo : 0 < k ∧ 1 < n
    · obtain ⟨hk0, hn1⟩ := hgo
      obtain ⟨g, rfl, hg1, hg2⟩ := own_some HO.out (by rw [tab_length, ← hN]; exact Nat.mul_pos (by omega) (by omega))
      obtain ⟨k', rfl⟩ : ∃ k', k = k' + 1 := ⟨k - 1, by omega⟩
      have dk : decide ((0 : Int) < ((k' + 1 : Nat) : Int)) = true := decide_eq_true (by omega)
      have dn : decide ((1 : Int) < (n : Int)) = true := decide_eq_true (by omega)
      have hgl := hl1 g rfl
      clear c0 c1 c2
      go_wp2_with fail
      refine (l1Below p n _ HK3.out.1 (by omega) (by omega)).mono ?_; rintro e w4 ⟨⟨x, rfl, x0, x1⟩, hk⟩
      obtain ⟨I, rfl⟩ := Int.eq_ofNat_of_zero_le x0
      have HK4 := hide (HK3.out.kept (Nat.le_refl _) hk)
      have HO4 := hide (Own.keptB HO.out hk (by omega))
      have B4 := hide (Box3.kept B3.out hk (by omega))
      have M4 := hide (Box3.kept M3.out hk (by omega))
      clear HK3 HO B3 M3 hk x0
      go_wp2_with fail
      refine (l1Below p 3 _ HK4.out.1 (by omega) (by omega)).mono ?_; rintro e w5 ⟨⟨kind, rfl, y0, y1⟩, hk⟩
      have HK5 := hide (HK4.out.kept (Nat.le_refl _) hk)
      have HO5 := hide (Own.keptB HO4.out hk (by omega))
      have B5 := hide (Box3.kept B4.out hk (by omega))
      have M5 := hide (Box3.kept M4.out hk (by omega))
      clear HK4 HO4 B4 M4 hk
      go_wp2_with fail
      refine (l1Below p ((n : Int) - 1) _ HK5.out.1 (by omega) (by omega)).mono ?_; rintro e w6 ⟨⟨y, rfl, y2, y3⟩, hk⟩
      obtain ⟨Y, rfl⟩ := Int.eq_ofNat_of_zero_le y2
      have HK6 := hide (HK5.out.kept (Nat.le_refl _) hk)
      have HO6 := hide (Own.keptB HO5.out hk (by omega))
      have B6 := hide (Box3.kept B5.out hk (by omega))
      have M6 := hide (Box3.kept M5.out hk (by omega))
      clear HK5 HO5 B5 M5 hk y2
      have hI : I < n := by omega
      obtain ⟨J, eJ⟩ : ∃ J : Nat, ((I : Int) + 1 + (Y : Int)) % (n : Int) = (J : Int) := Int.eq_ofNat_of_zero_le (Int.emod_nonneg _ (by omega))
      have hJ : J < n := by have := Int.emod_lt_of_pos ((I : Int) + 1 + (Y : Int)) (show (0 : Int) < (n : Int) by omega); omega
      have HOa := hide (HO6.out.alloc (.cells #[.int .i64 kind, .int .i64 I, .int .i64 J, .int .i64 0] 51))
      have Ba := hide (B6.out.alloc (.cells #[.int .i64 kind, .int .i64 I, .int .i64 J, .int .i64 0] 51))
      have Ma := hide (M6.out.alloc (.cells #[.int .i64 kind, .int .i64 I, .int .i64 J, .int .i64 0] 51))
      have HKa := hide (HK6.out.alloc (Nat.le_refl _) (.cells #[.int .i64 kind, .int .i64 I, .int .i64 J, .int .i64 0] 51))
      have OBa := hide (OpBox.new (k := kind) (i := I) (j := J) (t := 0) w6 w6.heap.size 51 rfl)
      have z6 := B6.out.lt
      have z7 := M6.out.lt
      have hg6 := (Own.lt HO6.out g rfl).2
      have hkd : kind = 0 ∨ kind = 1 ∨ kind = 2 := by omega
      obtain ⟨⟨c0, c1, c2⟩, _⟩ := Ma.out
      rcases hkd with rfl | rfl | rfl
      · obtain ⟨b0, b1, b2, b3⟩ := OBa.out
        go_wp2_with fail
        refine (specDoAny n n I J 0 0 g cap (w.heap.size + 1) N _ _ HOa.out hN (by omega) (by omega) hI hJ).mono ?_; rintro e wz ⟨rfl, ⟨f', ho'⟩, hg'⟩
        have R := hide (show _ ∧ _ ∧ _ from ⟨Box3.grown Ba.out hg' (by simp; omega), Box3.grown Ma.out hg' (by simp; omega), KB.grown HKa.out (Nat.le_refl _) hg' (by omega) (by omega)⟩)
        have HOz := hide ho'
        clear ho' hg'
        go_wp2_with fail
        go_roundw
        case rel => exact ⟨k', f', by simp, by omega, HOz.out, R.out.1, R.out.2.1, R.out.2.2⟩
        case measure => simp [intOf]
      · obtain ⟨b0, b1, b2, b3⟩ := OBa.out
        clear c0 c1 c2 HOa Ba Ma HKa
        have HOa := hide (HO6.out.alloc (.cells #[.int .i64 1, .int .i64 I, .int .i64 I, .int .i64 0] 51))
        have Ba := hide (B6.out.alloc (.cells #[.int .i64 1, .int .i64 I, .int .i64 I, .int .i64 0] 51))
        have Ma := hide (M6.out.alloc (.cells #[.int .i64 1, .int .i64 I, .int .i64 I, .int .i64 0] 51))
        have HKa := hide (HK6.out.alloc (Nat.le_refl _) (.cells #[.int .i64 1, .int .i64 I, .int .i64 I, .int .i64 0] 51))
        obtain ⟨⟨c0, c1, c2⟩, _⟩ := Ma.out
        go_wp2_with fail
        refine (specDoAny n n I I 1 0 g cap (w.heap.size + 1) N _ _ HOa.out hN (by omega) (by omega) hI hI).mono ?_; rintro e wz ⟨rfl, ⟨f', ho'⟩, hg'⟩
        have R := hide (show _ ∧ _ ∧ _ from ⟨Box3.grown Ba.out hg' (by simp; omega), Box3.grown Ma.out hg' (by simp; omega), KB.grown HKa.out (Nat.le_refl _) hg' (by omega) (by omega)⟩)
        have HOz := hide ho'
        clear ho' hg'
        go_wp2_with fail
        go_roundw
        case rel => exact ⟨k', f', by simp, by omega, HOz.out, R.out.1, R.out.2.1, R.out.2.2⟩
        case measure => simp [intOf]
      · obtain ⟨b0, b1, b2, b3⟩ := OBa.out
        go_wp2_with fail
        refine (l1Below p 5 _ HKa.out.1 (by omega) (by omega)).mono ?_; rintro e w7 ⟨⟨t, rfl, t0, t1⟩, hk⟩
        have Mb := hide ((Box3.kept Ma.out hk (by omega)).set (p := ⟨w6.heap.size, 3, none⟩) (by dsimp only; omega) (.int .i64 (t - 2)))
        have Bb := hide (Box3.kept Ba.out hk (by omega))
        have HKb := hide (HKa.out.kept (Nat.le_refl _) hk)
        have HOb := hide (Own.keptB HOa.out hk (by omega))
        have OBb := hide (OBa.out.grown hk.2 (by simp; omega))
        have fz : w7.frozen? ⟨w6.heap.size, 3, none⟩ = false := (World.frozen?_of_block (hk.2.block w6.heap.size (by simp) (by simp; omega))).trans (by go_simp)
        clear c0 c1 c2 b0 b1 b2 b3 HKa HOa OBa Ba Ma hk
        obtain ⟨⟨c0, c1, c2⟩, _⟩ := Mb.out
        obtain ⟨b0, b1, b2, b3⟩ := OBb.out
        go_wp2_with fail
        refine (specDoAny n n I J 2 (t - 2) g cap (w.heap.size + 1) N _ _ (Own.set HOb.out (p := ⟨w6.heap.size, 3, none⟩) (own_ne (by first | omega | (dsimp only; omega))) (.int .i64 (t - 2))) hN (by omega) (by omega) hI hJ).mono ?_; rintro e wz ⟨rfl, ⟨f', ho'⟩, hg'⟩
        have R := hide (show _ ∧ _ ∧ _ from ⟨Box3.grown (Bb.out.set (by dsimp only; omega) _) hg' (by simp; omega), Box3.grown Mb.out hg' (by simp; omega), KB.grown (HKb.out.set (by dsimp only; omega) (by dsimp only; omega) _) (Nat.le_refl _) hg' (by omega) (by omega)⟩)
        have HOz := hide ho'
        clear ho' hg'
        go_wp2_with fail
        go_roundw
        case rel => exact ⟨k', f', by simp, by omega, HOz.out, R.out.1, R.out.2.1, R.out.2.2⟩
        case measure => simp [intOf]
    · obtain ⟨⟨m0, m1, m2⟩, _⟩ := Box3.stored B3.out (.int .i64 n) (.int .i64 n) (.slice A N cap)
      obtain ⟨⟨e0, e1, e2⟩, g0, g1, g2⟩ := B3.out
      have hlx := Own.lt HO.out
      by_cases hk0 : 0 < k
      · have dk : decide ((0 : Int) < (k : Int)) = true := decide_eq_true (by omega)
        have dn : decide ((1 : Int) < (n : Int)) = false := decide_eq_false (by omega)
        go_wp2
        exact bodyPost_ret (v := mv (n) (n) (.slice A N cap)) (by first | (simp [results, Try.results83, go_sem, m0, m1, m2]; done) | (simp [results, Try.results83, go_sem]; done)) rfl ⟨⟨_, _, _, _, _, _, rfl, by omega, (((HO.out.set (own_nl hlx (.inl (by dsimp only; omega))) _).set (own_nl hlx (.inl (by dsimp only; omega))) _).set (own_nl hlx (.inl (by dsimp only; omega))) _).mono (by omega)⟩, ((HK3.out.set (by dsimp only; omega) (by dsimp only; omega) _).set (by dsimp only; omega) (by dsimp only; omega) _).set (by dsimp only; omega) (by dsimp only; omega) _⟩
      · have dk : decide ((0 : Int) < (k : Int)) = false := decide_eq_false (by omega)
        go_wp2
        exact bodyPost_ret (v := mv (n) (n) (.slice A N cap)) (by first | (simp [results, Try.results83, go_sem, m0, m1, m2]; done) | (simp [results, Try.results83, go_sem]; done)) rfl ⟨⟨_, _, _, _, _, _, rfl, by omega, (((HO.out.set (own_nl hlx (.inl (by dsimp only; omega))) _).set (own_nl hlx (.inl (by dsimp only; omega))) _).set (own_nl hlx (.inl (by dsimp only; omega))) _).mono (by omega)⟩, ((HK3.out.set (by dsimp only; omega) (by dsimp only; omega) _).set (by dsimp only; omega) (by dsimp only; omega) _).set (by dsimp only; omega) (by dsimp only; omega) _⟩
end Go.Proofs.Ytchlaebkigmfgaa
