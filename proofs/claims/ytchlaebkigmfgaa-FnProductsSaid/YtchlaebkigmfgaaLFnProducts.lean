/- The walk of FnProducts. -/
import Derived.Test.YtchlaebkigmfgaaDrawU
import Derived.Test.YtchlaebkigmfgaaTurnL
import Derived.Test.YtchlaebkigmfgaaDetF
import Derived.Test.YtchlaebkigmfgaaMixL
import Derived.Test.YtchlaebkigmfgaaCur
import Derived.Test.YtchlaebkigmfgaaRowLib
import Derived.Deep.DeepCutAuto
namespace Go.Proofs.Ytchlaebkigmfgaa
open Go.RowKit
set_option linter.unusedSimpArgs false
set_option linter.unusedVariables false
/-- One matrix of its own. -/
def OneM (w : World) (e : Ending) (w' : World) : Prop :=
  (∃ (r c : Int) (A : Option Addr) (n cap : Nat) (xs : List Int), e = .returned (mv r c (.slice A n cap)) ∧ n ≤ 1001 ∧ Own w' w.heap.size (.slice A n cap) xs) ∧ Below w.heap.size w w'
set_option maxHeartbeats 2000000 in
theorem drawDet (cA : Option Addr) (cn ccap : Nat) (w : World) (hs : SlB w w.heap.size cA cn) (hn : cn ≤ 1048576) :
    Calls Try.prog 25 #[.slice cA cn ccap] w (OneM w) := by
  have b0 := hide (Box3.new (x := .int .i64 0) (y := .int .i64 0) (z := .slice none 0 0) w w.heap.size 28 rfl)
  have HBx : Hid (Below w.heap.size w (w.alloc (.cells #[.int .i64 0, .int .i64 0, .slice none 0 0] 28))) := (Below.refl _ _).alloc (Nat.le_refl _) _
  have HS := hide (SlB.mono (SlB.below hs HBx.out) HBx.out.size)
  clear hs
  go_enter Try.func25, Try.ntmps25
  go_wp2_with fail
  refine (l1New cA cn ccap _ HS.out hn).mono ?_; rintro e w1 ⟨rfl, hc, hb⟩
  simp only [World.size_alloc] at hc ⊢
  have b1 := hide (b0.out.call hb)
  have HB1 := hide (kb_call HBx.out (Nat.le_refl _) hb)
  have z1 := hb.size
  simp only [World.size_alloc] at z1
  have zc := hc.lt
  have HC := hide hc
  clear hb hc b0 HBx
  go_wp2_with fail
  refine (l3Square (w.heap.size + 1) _ HC.out).mono ?_; rintro e w2 ⟨⟨r, c, A, n, cap, xs, rfl, hnn, ho⟩, hk⟩
  have b2 := hide (Box3.kb b1.out hk (by omega) (by omega))
  have HB2 := hide (hk.below HB1.out (by omega) (by omega) (by omega))
  have HO := hide ho
  have hl := Own.lt ho
  clear ho hk
  obtain ⟨⟨x0, x1, x2⟩, f0, f1, f2⟩ := b2.out
  have pl := b2.out.lt
  obtain ⟨⟨m0, m1, m2⟩, _⟩ := Box3.stored b2.out (.int .i64 r) (.int .i64 c) (.slice A n cap)
  go_wp2
  exact bodyPost_ret (v := mv (r) (c) (.slice A n cap)) (by first | (simp [results, Try.results25, go_sem, m0, m1, m2]; done) | (simp [results, Try.results25, go_sem]; done)) rfl ⟨⟨r, c, A, n, cap, xs, rfl, hnn, Own.mono (Own.set (Own.set (Own.set HO.out (own_nl hl (.inl (by dsimp only; omega))) _) (own_nl hl (.inl (by dsimp only; omega))) _) (own_nl hl (.inl (by dsimp only; omega))) _) (by omega)⟩, ((HB2.out.setCell (by dsimp only; omega) _).setCell (by dsimp only; omega) _).setCell (by dsimp only; omega) _⟩
set_option maxHeartbeats 4000000 in
theorem drawL6 (cA : Option Addr) (cn ccap : Nat) (w : World) (hs : SlB w w.heap.size cA cn) (hn : cn ≤ 1048576) :
    Calls Try.prog 66 #[.slice cA cn ccap] w (OneM w) := by
  have b0 := hide (Box3.new (x := .int .i64 0) (y := .int .i64 0) (z := .slice none 0 0) w w.heap.size 28 rfl)
  have HBx : Hid (Below w.heap.size w (w.alloc (.cells #[.int .i64 0, .int .i64 0, .slice none 0 0] 28))) := (Below.refl _ _).alloc (Nat.le_refl _) _
  have HS := hide (SlB.mono (SlB.below hs HBx.out) HBx.out.size)
  clear hs
  go_enter Try.func66, Try.ntmps66
  go_wp2_with fail
  refine (l1New cA cn ccap _ HS.out hn).mono ?_; rintro e w1 ⟨rfl, hc, hb⟩
  simp only [World.size_alloc] at hc ⊢
  have b1 := hide (b0.out.call hb)
  have HB1 := hide (kb_call HBx.out (Nat.le_refl _) hb)
  have z1 := hb.size
  simp only [World.size_alloc] at z1
  have zc := hc.lt
  have HC := hide hc
  clear hb hc b0 HBx
  go_wp2_with fail
  refine (l1Once (w.heap.size + 1) 3 _ HC.out (by omega) (by omega)).mono ?_; rintro e w2 ⟨⟨b, rfl⟩, hk⟩
  have HK2 := hide ((KB.startB (B := w1.heap.size) HC.out).kept (by omega) hk)
  have b2 := hide (Box3.kept b1.out hk (by omega))
  have z2 := hk.2.size
  clear hk
  cases b with
  | true =>
    go_wp2_with fail
    refine (l3Square (w.heap.size + 1) _ HK2.out.1).mono ?_; rintro e w3 ⟨⟨r, c, A, n, cap, xs, rfl, hnn, ho⟩, hk⟩
    have b3 := hide (Box3.kb b2.out hk (by omega) (by omega))
    have HB2 := hide (HK2.out.below HB1.out (by omega) (by omega) (by omega))
    have HB3 := hide (hk.below HB2.out (by omega) (by omega) (by omega))
    have HO := hide ho
    have hl := Own.lt ho
    clear ho hk
    obtain ⟨⟨x0, x1, x2⟩, f0, f1, f2⟩ := b3.out
    have pl := b3.out.lt
    obtain ⟨⟨m0, m1, m2⟩, _⟩ := Box3.stored b3.out (.int .i64 r) (.int .i64 c) (.slice A n cap)
    go_wp2
    exact bodyPost_ret (v := mv (r) (c) (.slice A n cap)) (by first | (simp [results, Try.results66, go_sem, m0, m1, m2]; done) | (simp [results, Try.results66, go_sem]; done)) rfl ⟨⟨r, c, A, n, cap, xs, rfl, hnn, Own.mono (Own.set (Own.set (Own.set HO.out (own_nl hl (.inl (by dsimp only; omega))) _) (own_nl hl (.inl (by dsimp only; omega))) _) (own_nl hl (.inl (by dsimp only; omega))) _) (by omega)⟩, ((HB3.out.setCell (by dsimp only; omega) _).setCell (by dsimp only; omega) _).setCell (by dsimp only; omega) _⟩
  | false =>
    go_wp2_with fail
    refine (l1Below (w.heap.size + 1) 5 _ HK2.out.1 (by omega) (by omega)).mono ?_; rintro e w3 ⟨⟨x, rfl, x0, x1⟩, hk⟩
    obtain ⟨X, rfl⟩ := Int.eq_ofNat_of_zero_le x0
    have HK3 := hide (HK2.out.kept (by omega) hk)
    have b3 := hide (Box3.kept b2.out hk (by omega))
    have z3 := hk.2.size
    clear hk x0
    go_wp2_with fail
    refine (l6Unimodular (w.heap.size + 1) X _ HK3.out.1 (by omega)).mono ?_; rintro e w4 ⟨⟨r, c, A, n, cap, xs, rfl, hnn, ho⟩, hk⟩
    have b4 := hide (Box3.kb b3.out hk (by omega) (by omega))
    have HK4 := hide (HK3.out.trans (by omega) hk)
    have hkc := hide hk.1
    have z4 := hk.size
    have HO := hide ho
    clear ho hk
    go_wp2_with fail
    refine (l3Spoil (w.heap.size + 1) w3.heap.size r c A n cap xs _ hkc.out HO.out (by omega) (by omega) (by omega)).mono ?_; rintro e w5 ⟨⟨r', c', A', n', cap', ys, rfl, hnn', ho⟩, hk⟩
    have b5 := hide (Box3.kb b4.out hk (by omega) (by omega))
    have HB4 := hide (HK4.out.below HB1.out (by omega) (by omega) (by omega))
    have HB5 := hide (hk.below HB4.out (by omega) (by omega) (by omega))
    have HO5 := hide ho
    have hl := Own.lt ho
    clear ho hk HO
    obtain ⟨⟨x0, x1, x2⟩, f0, f1, f2⟩ := b5.out
    have pl := b5.out.lt
    obtain ⟨⟨m0, m1, m2⟩, _⟩ := Box3.stored b5.out (.int .i64 r') (.int .i64 c') (.slice A' n' cap')
    go_wp2
    exact bodyPost_ret (v := mv (r') (c') (.slice A' n' cap')) (by first | (simp [results, Try.results66, go_sem, m0, m1, m2]; done) | (simp [results, Try.results66, go_sem]; done)) rfl ⟨⟨r', c', A', n', cap', ys, rfl, hnn', Own.mono (Own.set (Own.set (Own.set HO5.out (own_nl hl (.inl (by dsimp only; omega))) _) (own_nl hl (.inl (by dsimp only; omega))) _) (own_nl hl (.inl (by dsimp only; omega))) _) (by omega)⟩, ((HB5.out.setCell (by dsimp only; omega) _).setCell (by dsimp only; omega) _).setCell (by dsimp only; omega) _⟩
theorem drawUni (cA : Option Addr) (cn ccap : Nat) (w : World) (hs : SlB w w.heap.size cA cn) (hn : cn ≤ 1048576) :
    Calls Try.prog 26 #[.slice cA cn ccap] w (OneM w) := by
  have b0 := hide (Box3.new (x := .int .i64 0) (y := .int .i64 0) (z := .slice none 0 0) w w.heap.size 28 rfl)
  have HBx : Hid (Below w.heap.size w (w.alloc (.cells #[.int .i64 0, .int .i64 0, .slice none 0 0] 28))) := (Below.refl _ _).alloc (Nat.le_refl _) _
  have HS := hide (SlB.mono (SlB.below hs HBx.out) HBx.out.size)
  clear hs
  go_enter Try.func26, Try.ntmps26
  go_wp2_with fail
  refine (drawL6 cA cn ccap _ HS.out hn).mono ?_; rintro e w2 ⟨⟨r, c, A, n, cap, xs, rfl, hnn, ho⟩, hb⟩
  have b2 := hide (b0.out.call hb)
  have HB2 := hide (kb_call HBx.out (Nat.le_refl _) hb)
  have z1 := hb.size
  simp only [World.size_alloc] at z1 ho
  have HO := hide ho
  have hl := Own.lt ho
  clear ho hb b0 HBx
  obtain ⟨⟨x0, x1, x2⟩, f0, f1, f2⟩ := b2.out
  have pl := b2.out.lt
  obtain ⟨⟨m0, m1, m2⟩, _⟩ := Box3.stored b2.out (.int .i64 r) (.int .i64 c) (.slice A n cap)
  go_wp2
  exact bodyPost_ret (v := mv (r) (c) (.slice A n cap)) (by first | (simp [results, Try.results26, go_sem, m0, m1, m2]; done) | (simp [results, Try.results26, go_sem]; done)) rfl ⟨⟨r, c, A, n, cap, xs, rfl, hnn, Own.mono (Own.set (Own.set (Own.set HO.out (own_nl hl (.inl (by dsimp only; omega))) _) (own_nl hl (.inl (by dsimp only; omega))) _) (own_nl hl (.inl (by dsimp only; omega))) _) (by omega)⟩, ((HB2.out.setCell (by dsimp only; omega) _).setCell (by dsimp only; omega) _).setCell (by dsimp only; omega) _⟩
theorem drawInv (cA : Option Addr) (cn ccap : Nat) (w : World) (hs : SlB w w.heap.size cA cn) (hn : cn ≤ 1048576) :
    Calls Try.prog 34 #[.slice cA cn ccap] w (OneM w) := by
  have b0 := hide (Box3.new (x := .int .i64 0) (y := .int .i64 0) (z := .slice none 0 0) w w.heap.size 28 rfl)
  have HBx : Hid (Below w.heap.size w (w.alloc (.cells #[.int .i64 0, .int .i64 0, .slice none 0 0] 28))) := (Below.refl _ _).alloc (Nat.le_refl _) _
  have HS := hide (SlB.mono (SlB.below hs HBx.out) HBx.out.size)
  clear hs
  go_enter Try.func34, Try.ntmps34
  go_wp2_with fail
  refine (drawL6 cA cn ccap _ HS.out hn).mono ?_; rintro e w2 ⟨⟨r, c, A, n, cap, xs, rfl, hnn, ho⟩, hb⟩
  have b2 := hide (b0.out.call hb)
  have HB2 := hide (kb_call HBx.out (Nat.le_refl _) hb)
  have z1 := hb.size
  simp only [World.size_alloc] at z1 ho
  have HO := hide ho
  have hl := Own.lt ho
  clear ho hb b0 HBx
  obtain ⟨⟨x0, x1, x2⟩, f0, f1, f2⟩ := b2.out
  have pl := b2.out.lt
  obtain ⟨⟨m0, m1, m2⟩, _⟩ := Box3.stored b2.out (.int .i64 r) (.int .i64 c) (.slice A n cap)
  go_wp2
  exact bodyPost_ret (v := mv (r) (c) (.slice A n cap)) (by first | (simp [results, Try.results34, go_sem, m0, m1, m2]; done) | (simp [results, Try.results34, go_sem]; done)) rfl ⟨⟨r, c, A, n, cap, xs, rfl, hnn, Own.mono (Own.set (Own.set (Own.set HO.out (own_nl hl (.inl (by dsimp only; omega))) _) (own_nl hl (.inl (by dsimp only; omega))) _) (own_nl hl (.inl (by dsimp only; omega))) _) (by omega)⟩, ((HB2.out.setCell (by dsimp only; omega) _).setCell (by dsimp only; omega) _).setCell (by dsimp only; omega) _⟩
end Go.Proofs.Ytchlaebkigmfgaa
namespace Go.Proofs.Ytchlaebkigmfgaa
open Go.RowKit
set_option linter.unusedSimpArgs false
set_option linter.unusedVariables false
theorem det_some {r c : Int} {xs : List Int} (h : (detRes r c xs).2 = true) : ∃ n : Nat, r = n ∧ c = n ∧ n ≤ 6 ∧ xs.length = n * n ∧ isMat n n xs = true ∧ (detRes r c xs).1 = Det.det n (toM n xs) := by
  by_cases hq : isSq r c xs = true
  · obtain ⟨n, rfl, rfl, h6, hl, _, hm⟩ := isSq_t hq
    have e : detRes n n xs = detVal (detL n xs) := by rw [detRes, if_pos hq]; rfl
    rw [e] at h ⊢
    refine ⟨n, rfl, rfl, h6, hl, hm, ?_⟩
    cases hd : detL n xs with
    | none => rw [hd] at h; cases h
    | some d => exact detO_det hd
  · rw [detRes, if_neg hq] at h; cases h
theorem det_mulL {n : Nat} {us ys : List Int} : Det.det n (toM n (mulL n n n us ys)) = Det.det n (toM n us) * Det.det n (toM n ys) := by
  rw [← Det.det_mul]
  exact Det.det_congr fun i j hi hj => by rw [mulL, toM_ofM _ hi hj]
theorem prod_law {ra ca rb cb : Int} {us ys : List Int} {P : MRes} (hP : mulRes ra ca us rb cb ys = P) (kp : P.ok = true) (k1 : (detRes ra ca us).2 = true) (k2 : (detRes rb cb ys).2 = true) (k3 : (detRes P.R P.C P.L).2 = true) :
    (detRes ra ca us).1 * (detRes rb cb ys).1 = (detRes P.R P.C P.L).1 := by
  obtain ⟨n, rfl, rfl, _, _, _, e1⟩ := det_some k1
  obtain ⟨m, rfl, rfl, _, _, _, e2⟩ := det_some k2
  rcases mul_cases n n us m m ys with h | ⟨R, C, C', f1, f2, f3, f4, m1, m2, m3⟩
  · rw [h] at hP; subst hP; exact absurd kp (by simp [MRes.no])
  obtain rfl : n = R := by omega
  obtain rfl : n = C := by omega
  obtain rfl : n = C' := by omega
  obtain rfl : m = n := by omega
  rw [mul_res m1 m2 m3] at hP
  subst hP
  obtain ⟨k, g1, _, _, _, _, e3⟩ := det_some k3
  obtain rfl : m = k := by
    have : (m : Int) = k := g1
    omega
  rw [e1, e2, e3]
  exact det_mulL.symm
theorem isNum_sq {a b : Int} (ha : -400000000 ≤ a ∧ a ≤ 400000000) (hb : -400000000 ≤ b ∧ b ≤ 400000000) : -160000000000000000 ≤ a * b ∧ a * b ≤ 160000000000000000 := mul_in ha hb

theorem mix_law {n : Nat} {mr mc : Int} {zs us : List Int} (hm : MixP n mr mc zs) {P : MRes} (hP : mulRes mr mc zs n n us = P) (kp : P.ok = true) (k1 : (detRes n n us).2 = true) (k3 : (detRes P.R P.C P.L).2 = true) :
    (detRes n n us).1 = (detRes P.R P.C P.L).1 := by
  obtain ⟨n', e0, _, _, _, _, e1⟩ := det_some k1
  obtain rfl : n = n' := by omega
  rcases mul_cases mr mc zs n n us with h | ⟨R, C, C', f1, f2, f3, f4, m1, m2, m3⟩
  · rw [h] at hP; subst hP; exact absurd kp (by simp [MRes.no])
  obtain rfl : n = C' := by omega
  obtain rfl : n = C := by omega
  rcases hm with ⟨g1, g2, g3, g4⟩ | ⟨g1, g2, g3, g4⟩
  · obtain rfl : n = R := by omega
    subst f1
    rw [f2, mul_res m1 m2 m3] at hP
    subst hP
    obtain ⟨k, h1, _, _, _, _, e3⟩ := det_some k3
    obtain rfl : n = k := by
      have : (n : Int) = k := h1
      omega
    rw [e1, e3]
    show _ = Det.det n (toM n (mulL n n n zs us))
    rw [det_mulL, g4, Int.one_mul]
  · omega
theorem turn_law {n : Nat} {us : List Int} (k1 : (detRes n n us).2 = true) {T : MRes} (hT : trRes n n us = T) (k3 : (detRes T.R T.C T.L).2 = true) : (detRes n n us).1 = (detRes T.R T.C T.L).1 := by
  obtain ⟨n', e0, _, _, _, hm, e1⟩ := det_some k1
  obtain rfl : n = n' := by omega
  rw [tr_res hm] at hT
  subst hT
  obtain ⟨k, h1, _, _, _, _, e3⟩ := det_some k3
  obtain rfl : n = k := by
    have : (n : Int) = k := h1
    omega
  rw [e1, e3, ← Det.det_tr]
  exact Det.det_congr fun i j hi hj => (toM_ofM _ hi hj).symm
end Go.Proofs.Ytchlaebkigmfgaa
namespace Go.Proofs.Ytchlaebkigmfgaa
open Go.RowKit
set_option linter.unusedSimpArgs false
set_option linter.unusedVariables false
theorem lawBig_no (A : Option Addr) (n cap : Nat) (w : World) (hn : n ≤ 1048576) :
    Calls Try.prog 24 #[.slice A n cap] w fun e w' => e = .returned (.bool false) ∧ w = w' := by
  have d1 : decide ((1048576 : Int) < (n : Int)) = false := decide_eq_false (by omega)
  go_enter Try.func24, Try.ntmps24
  go_wp2
  go_returns
  exact ⟨rfl, rfl⟩
theorem lawBig_yes (A : Option Addr) (n cap : Nat) (w : World) (hn : 1048576 < n) (hm : n ≤ 9223372036854775807) :
    Calls Try.prog 24 #[.slice A n cap] w fun e w' => e = .returned (.bool true) ∧ w = w' := by
  have d1 : decide ((1048576 : Int) < (n : Int)) = true := decide_eq_true (by omega)
  go_enter Try.func24, Try.ntmps24
  go_wp2
  go_returns
  exact ⟨rfl, rfl⟩
theorem lawAbs (n : Int) (w : World) (h : -9223372036854775808 < n) (h' : n ≤ 9223372036854775807) :
    Calls Try.prog 38 #[.int .i64 n] w fun e w' => e = .returned (.int .i64 (n.natAbs : Int)) ∧ w = w' := by
  go_enter Try.func38, Try.ntmps38
  go_wp2
  all_goals (go_ret; exact ⟨ret_int (by omega), rfl⟩)
theorem lawAbs_at (n x : Int) (hx : Hid ((n.natAbs : Int) = x)) (w : World) (h : -9223372036854775808 < n) (h' : n ≤ 9223372036854775807) :
    Calls Try.prog 38 #[.int .i64 n] w fun e w' => e = .returned (.int .i64 x) ∧ w = w' :=
  (lawAbs n w h h').mono fun _ _ ⟨he, hw⟩ => ⟨by rw [he, hx.out], hw⟩
end Go.Proofs.Ytchlaebkigmfgaa
namespace Go.Proofs.Ytchlaebkigmfgaa
open Go.RowKit
set_option linter.unusedSimpArgs false
set_option linter.unusedVariables false
set_option maxRecDepth 100000 in
set_option maxHeartbeats 16000000 in
theorem walkFnProducts (A : Option Addr) (n cap : Nat) (xs : List Int) (w : World) (hs : SlBArg w A n cap xs) :
    Calls Try.prog 7 #[.slice A n cap] w fun e w' => e = .returned (.bool true) ∧ Below w.heap.size w w' := by
  obtain ⟨hx, hm, hs⟩ := hs
  clear hx
  unfold maxLen at hm
  by_cases hn : n ≤ 1048576
  · have HS := hide hs; clear hs
    go_enter Try.func7, Try.ntmps7
    go_wp2_with fail
    refine (lawBig_no A n cap _ hn).mono ?_; rintro e w0 ⟨rfl, rfl⟩
    have HB0 : Hid (Below w.heap.size w w) := Below.refl _ _
    go_wp2_with fail
    refine (drawDet A n cap _ (SlB.mono (SlB.below HS.out HB0.out) HB0.out.size) hn).mono ?_; rintro e w1 ⟨⟨r, c, A3, m3, p3, us, rfl, hm3, ho⟩, hb⟩
    obtain ⟨rfl, _⟩ := Own.reads ho
    have HB1_ := hide ((kb_call HB0.out (Nat.le_refl _) hb).alloc (by have := HB0.out.size; have := hb.size; omega) (.cells #[.int .i64 r, .int .i64 c, .slice A3 us.length p3] 28))
    clear HB0
    have z_1 := hb.size
    (try simp only [World.size_alloc, World.size_setCell, World.size_drew, size_drewN] at z_1)
    have b2_ := hide (Box3.new (x := .int .i64 r) (y := .int .i64 c) (z := .slice A3 us.length p3) w1 w1.heap.size 28 rfl)
    have u3_ := hide (ho |>.alloc (.cells #[.int .i64 r, .int .i64 c, .slice A3 us.length p3] 28))
    clear hb ho
    go_wp2_with fail
    refine (drawUni A n cap _ (SlB.mono (SlB.below HS.out HB1_.out) HB1_.out.size) hn).mono ?_; rintro e w2 ⟨⟨r', c', A4, m4, p4, ys, rfl, hm4, ho⟩, hb⟩
    obtain ⟨rfl, _⟩ := Own.reads ho
    have b4_ := hide (b2_.out.call hb |>.alloc (.cells #[.int .i64 r', .int .i64 c', .slice A4 ys.length p4] 28))
    clear b2_
    have u5_ := hide (Own.below u3_.out hb |>.alloc (.cells #[.int .i64 r', .int .i64 c', .slice A4 ys.length p4] 28))
    clear u3_
    have HB6_ := hide ((kb_call HB1_.out (Nat.le_refl _) hb).alloc (by have := HB1_.out.size; have := hb.size; omega) (.cells #[.int .i64 r', .int .i64 c', .slice A4 ys.length p4] 28))
    clear HB1_
    have z_2 := hb.size
    (try simp only [World.size_alloc, World.size_setCell, World.size_drew, size_drewN] at z_2)
    have b7_ := hide (Box3.new (x := .int .i64 r') (y := .int .i64 c') (z := .slice A4 ys.length p4) w2 w2.heap.size 28 rfl)
    have u8_ := hide (ho |>.alloc (.cells #[.int .i64 r', .int .i64 c', .slice A4 ys.length p4] 28))
    clear hb ho
    clear HS
    obtain ⟨P, hP⟩ : ∃ P, mulRes r c us r' c' ys = P := ⟨_, rfl⟩
    have lP : P.L.length ≤ 1048576 := by rw [← hP]; exact MultiplyMatrices_len
    have lw := prod_law hP
    have cm := fun A p B q w (hA : Sl w A us.length p us) (hB : Sl w B ys.length q ys) => implMul r c r' c' A B p q us ys w hA (by omega) hB (by omega)
    have cs := fun A p B q w (hA : Sl w A us.length p us) (hB : Sl w B ys.length q ys) => specMul r c r' c' A B p q us ys w hA (by omega) hB (by omega)
    have d1 := fun A p w (hA : Sl w A us.length p us) => implDetOf r c A p us w hA (by omega)
    have d2 := fun A p w (hA : Sl w A ys.length p ys) => implDetOf r' c' A p ys w hA (by omega)
    have d3 := fun A p w (hA : Sl w A P.L.length p P.L) => implDetOf P.R P.C A p P.L w hA lP
    have b1 := @detRes_in r c us
    have b2 := @detRes_in r' c' ys
    rw [hP] at cm cs
    clear hP lP
    obtain ⟨RP, CP, LP, kP⟩ := P
    simp only at lw d3
    generalize detRes r c us = D1 at *
    generalize detRes r' c' ys = D2 at *
    generalize detRes RP CP LP = D3 at *
    obtain ⟨x1, k1⟩ := D1
    obtain ⟨x2, k2⟩ := D2
    obtain ⟨x3, k3⟩ := D3
    simp only at lw b1 b2
    have hpr := isNum_sq b1 b2
    have eKP : (kP != kP) = false := by simp
    have CM : Hid (∀ A p B q w, Sl w A us.length p us → Sl w B ys.length q ys → Calls Try.prog 27 #[mv r c (.slice A us.length p), mv r' c' (.slice B ys.length q)] w (RetMat w RP CP LP kP)) := cm
    have CS : Hid (∀ A p B q w, Sl w A us.length p us → Sl w B ys.length q ys → Calls Try.prog 28 #[mv r c (.slice A us.length p), mv r' c' (.slice B ys.length q)] w (RetMat w RP CP LP kP)) := cs
    have D1 : Hid (∀ A p w, Sl w A us.length p us → Calls Try.prog 14 #[mv r c (.slice A us.length p)] w fun e w' => e = .returned (.tuple #[.int .i64 x1, .bool k1]) ∧ Below w.heap.size w w') := d1
    have D2 : Hid (∀ A p w, Sl w A ys.length p ys → Calls Try.prog 14 #[mv r' c' (.slice A ys.length p)] w fun e w' => e = .returned (.tuple #[.int .i64 x2, .bool k2]) ∧ Below w.heap.size w w') := d2
    have D3 : Hid (∀ A p w, Sl w A LP.length p LP → Calls Try.prog 14 #[mv RP CP (.slice A LP.length p)] w fun e w' => e = .returned (.tuple #[.int .i64 x3, .bool k3]) ∧ Below w.heap.size w w') := d3
    have LW := hide lw
    clear cm cs d1 d2 d3 lw
    obtain ⟨⟨c0_0, c0_1, c0_2⟩, _⟩ := b4_.out
    obtain ⟨⟨c1_0, c1_1, c1_2⟩, _⟩ := b7_.out
    go_wp2_with fail
    refine (CM.out _ _ _ _ _ (Own.sl2 u5_.out) (Own.sl2 u8_.out)).mono ?_; rintro e w4 ⟨s, rfl, ho, hb⟩
    obtain ⟨A6, p6, rfl, _⟩ := Own.sl ho
    have b9_ := hide (b4_.out.call hb |>.alloc (.cells #[.int .i64 RP, .int .i64 CP, .slice A6 LP.length p6] 28))
    clear b4_
    have u10_ := hide (Own.below u5_.out hb |>.alloc (.cells #[.int .i64 RP, .int .i64 CP, .slice A6 LP.length p6] 28))
    clear u5_
    have b11_ := hide (b7_.out.call hb |>.alloc (.cells #[.int .i64 RP, .int .i64 CP, .slice A6 LP.length p6] 28))
    clear b7_
    have u12_ := hide (Own.below u8_.out hb |>.alloc (.cells #[.int .i64 RP, .int .i64 CP, .slice A6 LP.length p6] 28))
    clear u8_
    have HB13_ := hide ((kb_call HB6_.out (Nat.le_refl _) hb).alloc (by have := HB6_.out.size; have := hb.size; omega) (.cells #[.int .i64 RP, .int .i64 CP, .slice A6 LP.length p6] 28))
    clear HB6_
    have z_3 := hb.size
    (try simp only [World.size_alloc, World.size_setCell, World.size_drew, size_drewN] at z_3)
    have b14_ := hide (Box3.new (x := .int .i64 RP) (y := .int .i64 CP) (z := .slice A6 LP.length p6) w4 w4.heap.size 28 rfl)
    have u15_ := hide (ho |>.alloc (.cells #[.int .i64 RP, .int .i64 CP, .slice A6 LP.length p6] 28))
    clear hb ho c0_0 c0_1 c0_2 c1_0 c1_1 c1_2
    obtain ⟨⟨c0_0, c0_1, c0_2⟩, _⟩ := b9_.out
    obtain ⟨⟨c1_0, c1_1, c1_2⟩, _⟩ := b11_.out
    go_wp2_with fail
    refine (CS.out _ _ _ _ _ (Own.sl2 u10_.out) (Own.sl2 u12_.out)).mono ?_; rintro e w6 ⟨s, rfl, ho, hb⟩
    obtain ⟨A7, p7, rfl, _⟩ := Own.sl ho
    have b16_ := hide (b9_.out.call hb |>.alloc (.cells #[.int .i64 RP, .int .i64 CP, .slice A7 LP.length p7] 28))
    clear b9_
    have u17_ := hide (Own.below u10_.out hb |>.alloc (.cells #[.int .i64 RP, .int .i64 CP, .slice A7 LP.length p7] 28))
    clear u10_
    have b18_ := hide (b11_.out.call hb |>.alloc (.cells #[.int .i64 RP, .int .i64 CP, .slice A7 LP.length p7] 28))
    clear b11_
    have u19_ := hide (Own.below u12_.out hb |>.alloc (.cells #[.int .i64 RP, .int .i64 CP, .slice A7 LP.length p7] 28))
    clear u12_
    have b20_ := hide (b14_.out.call hb |>.alloc (.cells #[.int .i64 RP, .int .i64 CP, .slice A7 LP.length p7] 28))
    clear b14_
    have u21_ := hide (Own.below u15_.out hb |>.alloc (.cells #[.int .i64 RP, .int .i64 CP, .slice A7 LP.length p7] 28))
    clear u15_
    have HB22_ := hide ((kb_call HB13_.out (Nat.le_refl _) hb).alloc (by have := HB13_.out.size; have := hb.size; omega) (.cells #[.int .i64 RP, .int .i64 CP, .slice A7 LP.length p7] 28))
    clear HB13_
    have z_4 := hb.size
    (try simp only [World.size_alloc, World.size_setCell, World.size_drew, size_drewN] at z_4)
    have b23_ := hide (Box3.new (x := .int .i64 RP) (y := .int .i64 CP) (z := .slice A7 LP.length p7) w6 w6.heap.size 28 rfl)
    have u24_ := hide (ho |>.alloc (.cells #[.int .i64 RP, .int .i64 CP, .slice A7 LP.length p7] 28))
    clear hb ho c0_0 c0_1 c0_2 c1_0 c1_1 c1_2
    clear b23_
    clear u24_
    obtain ⟨⟨c0_0, c0_1, c0_2⟩, _⟩ := b16_.out
    go_wp2_with fail
    refine (D1.out _ _ _ (Own.sl2 u17_.out)).mono ?_; rintro e w7 ⟨rfl, hb⟩
    have b25_ := hide (b16_.out.call hb)
    clear b16_
    have u26_ := hide (Own.below u17_.out hb)
    clear u17_
    have b27_ := hide (b18_.out.call hb)
    clear b18_
    have u28_ := hide (Own.below u19_.out hb)
    clear u19_
    have b29_ := hide (b20_.out.call hb)
    clear b20_
    have u30_ := hide (Own.below u21_.out hb)
    clear u21_
    have HB31_ := hide (kb_call HB22_.out (Nat.le_refl _) hb)
    clear HB22_
    have z_5 := hb.size
    (try simp only [World.size_alloc, World.size_setCell, World.size_drew, size_drewN] at z_5)
    clear hb c0_0 c0_1 c0_2
    obtain ⟨⟨c0_0, c0_1, c0_2⟩, _⟩ := b27_.out
    go_wp2_with fail
    refine (D2.out _ _ _ (Own.sl2 u28_.out)).mono ?_; rintro e w8 ⟨rfl, hb⟩
    have b32_ := hide (b25_.out.call hb)
    clear b25_
    have u33_ := hide (Own.below u26_.out hb)
    clear u26_
    have b34_ := hide (b27_.out.call hb)
    clear b27_
    have u35_ := hide (Own.below u28_.out hb)
    clear u28_
    have b36_ := hide (b29_.out.call hb)
    clear b29_
    have u37_ := hide (Own.below u30_.out hb)
    clear u30_
    have HB38_ := hide (kb_call HB31_.out (Nat.le_refl _) hb)
    clear HB31_
    have z_6 := hb.size
    (try simp only [World.size_alloc, World.size_setCell, World.size_drew, size_drewN] at z_6)
    clear hb c0_0 c0_1 c0_2
    obtain ⟨⟨c0_0, c0_1, c0_2⟩, _⟩ := b36_.out
    go_wp2_with fail
    refine (D3.out _ _ _ (Own.sl2 u37_.out)).mono ?_; rintro e w9 ⟨rfl, hb⟩
    have b39_ := hide (b32_.out.call hb)
    clear b32_
    have u40_ := hide (Own.below u33_.out hb)
    clear u33_
    have b41_ := hide (b34_.out.call hb)
    clear b34_
    have u42_ := hide (Own.below u35_.out hb)
    clear u35_
    have b43_ := hide (b36_.out.call hb)
    clear b36_
    have u44_ := hide (Own.below u37_.out hb)
    clear u37_
    have HB45_ := hide (kb_call HB38_.out (Nat.le_refl _) hb)
    clear HB38_
    have z_7 := hb.size
    (try simp only [World.size_alloc, World.size_setCell, World.size_drew, size_drewN] at z_7)
    clear hb c0_0 c0_1 c0_2
    cases kP with
    | false =>
      go_wp2
      go_returns
      exact ⟨rfl, HB45_.out⟩
    | true =>
      cases k1 with
      | false =>
        go_wp2
        go_returns
        exact ⟨rfl, HB45_.out⟩
      | true =>
        cases k2 with
        | false =>
          go_wp2
          go_returns
          exact ⟨rfl, HB45_.out⟩
        | true =>
          cases k3 with
          | false =>
            go_wp2
            go_returns
            exact ⟨rfl, HB45_.out⟩
          | true =>
            have e1 : (x1 * x2 == x3) = true := by rw [LW.out rfl rfl rfl rfl]; simp
            go_wp2
            go_returns
            exact ⟨rfl, HB45_.out⟩
  · go_enter Try.func7, Try.ntmps7
    go_wp2_with fail
    refine (lawBig_yes A n cap _ (by omega) (by omega)).mono ?_; rintro e w0 ⟨rfl, rfl⟩
    go_wp2
    go_returns
    exact ⟨rfl, Below.refl _ _⟩
end Go.Proofs.Ytchlaebkigmfgaa
