/- The walk of FnAdjugate. -/
import Derived.Test.YtchlaebkigmfgaaDrawU
import Derived.Test.YtchlaebkigmfgaaMulZ
import Derived.Test.YtchlaebkigmfgaaMatL
import Derived.Test.YtchlaebkigmfgaaDoOp
import Derived.StillTailTactics
import Derived.Test.YtchlaebkigmfgaaIdW
import Derived.Test.YtchlaebkigmfgaaTurnL
import Derived.Test.YtchlaebkigmfgaaDetF
import Derived.Test.YtchlaebkigmfgaaInvW
import Derived.Test.YtchlaebkigmfgaaCur
import Derived.Deep.RegionHeld3
import Derived.Deep.DeepCutAuto
import Derived.Test.YtchlaebkigmfgaaRowLib
namespace Go.Proofs.Ytchlaebkigmfgaa
open Go.RowKit
set_option linter.unusedSimpArgs false
set_option linter.unusedVariables false
/-- One matrix of its own. -/
def OneM (w : World) (e : Ending) (w' : World) : Prop :=
  (∃ (r c : Int) (A : Option Addr) (n cap : Nat) (xs : List Int), e = .returned (mv r c (.slice A n cap)) ∧ n ≤ 1001 ∧ Own w' w.heap.size (.slice A n cap) xs) ∧ Below w.heap.size w w'
set_option maxHeartbeats 2000000 in
theorem drawDet (cA : Option Addr) (cn ccap : Nat) (w : World) (hs : SlB w w.heap.size cA cn) (hn : cn ≤ 1048576) :
    Calls Try.prog 25 #[.slice cA cn ccap] w (OneM w) := by
  have b0 := hide (Box3.new (x := .int .i64 0) (y := .int .i64 0) (z := .slice none 0 0) w w.heap.size 28 rfl)
  have HBx : Hid (Below w.heap.size w (w.alloc (.cells #[.int .i64 0, .int .i64 0, .slice none 0 0] 28))) := (Below.refl _ _).alloc (Nat.le_refl _) _
  have HS := hide (SlB.mono (SlB.below hs HBx.out) HBx.out.size)
  clear hs
  go_enter Try.func25, Try.ntmps25
  go_wp2_with fail
  refine (l1New cA cn ccap _ HS.out hn).mono ?_; rintro e w1 ⟨rfl, hc, hb⟩
  simp only [World.size_alloc] at hc ⊢
  have b1 := hide (b0.out.call hb)
  have HB1 := hide (kb_call HBx.out (Nat.le_refl _) hb)
  have z1 := hb.size
  simp only [World.size_alloc] at z1
  have zc := hc.lt
  have HC := hide hc
  clear hb hc b0 HBx
  go_wp2_with fail
  refine (l3Square (w.heap.size + 1) _ HC.out).mono ?_; rintro e w2 ⟨⟨r, c, A, n, cap, xs, rfl, hnn, ho⟩, hk⟩
  have b2 := hide (Box3.kb b1.out hk (by omega) (by omega))
  have HB2 := hide (hk.below HB1.out (by omega) (by omega) (by omega))
  have HO := hide ho
  have hl := Own.lt ho
  clear ho hk
  obtain ⟨⟨x0, x1, x2⟩, f0, f1, f2⟩ := b2.out
  have pl := b2.out.lt
  obtain ⟨⟨m0, m1, m2⟩, _⟩ := Box3.stored b2.out (.int .i64 r) (.int .i64 c) (.slice A n cap)
  go_wp2
  exact bodyPost_ret (v := mv (r) (c) (.slice A n cap)) (by first | (simp [results, Try.results25, go_sem, m0, m1, m2]; done) | (simp [results, Try.results25, go_sem]; done)) rfl ⟨⟨r, c, A, n, cap, xs, rfl, hnn, Own.mono (Own.set (Own.set (Own.set HO.out (own_nl hl (.inl (by dsimp only; omega))) _) (own_nl hl (.inl (by dsimp only; omega))) _) (own_nl hl (.inl (by dsimp only; omega))) _) (by omega)⟩, ((HB2.out.setCell (by dsimp only; omega) _).setCell (by dsimp only; omega) _).setCell (by dsimp only; omega) _⟩
set_option maxHeartbeats 4000000 in
theorem drawL6 (cA : Option Addr) (cn ccap : Nat) (w : World) (hs : SlB w w.heap.size cA cn) (hn : cn ≤ 1048576) :
    Calls Try.prog 66 #[.slice cA cn ccap] w (OneM w) := by
  have b0 := hide (Box3.new (x := .int .i64 0) (y := .int .i64 0) (z := .slice none 0 0) w w.heap.size 28 rfl)
  have HBx : Hid (Below w.heap.size w (w.alloc (.cells #[.int .i64 0, .int .i64 0, .slice none 0 0] 28))) := (Below.refl _ _).alloc (Nat.le_refl _) _
  have HS := hide (SlB.mono (SlB.below hs HBx.out) HBx.out.size)
  clear hs
  go_enter Try.func66, Try.ntmps66
  go_wp2_with fail
  refine (l1New cA cn ccap _ HS.out hn).mono ?_; rintro e w1 ⟨rfl, hc, hb⟩
  simp only [World.size_alloc] at hc ⊢
  have b1 := hide (b0.out.call hb)
  have HB1 := hide (kb_call HBx.out (Nat.le_refl _) hb)
  have z1 := hb.size
  simp only [World.size_alloc] at z1
  have zc := hc.lt
  have HC := hide hc
  clear hb hc b0 HBx
  go_wp2_with fail
  refine (l1Once (w.heap.size + 1) 3 _ HC.out (by omega) (by omega)).mono ?_; rintro e w2 ⟨⟨b, rfl⟩, hk⟩
  have HK2 := hide ((KB.startB (B := w1.heap.size) HC.out).kept (by omega) hk)
  have b2 := hide (Box3.kept b1.out hk (by omega))
  have z2 := hk.2.size
  clear hk
  cases b with
  | true =>
    go_wp2_with fail
    refine (l3Square (w.heap.size + 1) _ HK2.out.1).mono ?_; rintro e w3 ⟨⟨r, c, A, n, cap, xs, rfl, hnn, ho⟩, hk⟩
    have b3 := hide (Box3.kb b2.out hk (by omega) (by omega))
    have HB2 := hide (HK2.out.below HB1.out (by omega) (by omega) (by omega))
    have HB3 := hide (hk.below HB2.out (by omega) (by omega) (by omega))
    have HO := hide ho
    have hl := Own.lt ho
    clear ho hk
    obtain ⟨⟨x0, x1, x2⟩, f0, f1, f2⟩ := b3.out
    have pl := b3.out.lt
    obtain ⟨⟨m0, m1, m2⟩, _⟩ := Box3.stored b3.out (.int .i64 r) (.int .i64 c) (.slice A n cap)
    go_wp2
    exact bodyPost_ret (v := mv (r) (c) (.slice A n cap)) (by first | (simp [results, Try.results66, go_sem, m0, m1, m2]; done) | (simp [results, Try.results66, go_sem]; done)) rfl ⟨⟨r, c, A, n, cap, xs, rfl, hnn, Own.mono (Own.set (Own.set (Own.set HO.out (own_nl hl (.inl (by dsimp only; omega))) _) (own_nl hl (.inl (by dsimp only; omega))) _) (own_nl hl (.inl (by dsimp only; omega))) _) (by omega)⟩, ((HB3.out.setCell (by dsimp only; omega) _).setCell (by dsimp only; omega) _).setCell (by dsimp only; omega) _⟩
  | false =>
    go_wp2_with fail
    refine (l1Below (w.heap.size + 1) 5 _ HK2.out.1 (by omega) (by omega)).mono ?_; rintro e w3 ⟨⟨x, rfl, x0, x1⟩, hk⟩
    obtain ⟨X, rfl⟩ := Int.eq_ofNat_of_zero_le x0
    have HK3 := hide (HK2.out.kept (by omega) hk)
    have b3 := hide (Box3.kept b2.out hk (by omega))
    have z3 := hk.2.size
    clear hk x0
    go_wp2_with fail
    refine (l6Unimodular (w.heap.size + 1) X _ HK3.out.1 (by omega)).mono ?_; rintro e w4 ⟨⟨r, c, A, n, cap, xs, rfl, hnn, ho⟩, hk⟩
    have b4 := hide (Box3.kb b3.out hk (by omega) (by omega))
    have HK4 := hide (HK3.out.trans (by omega) hk)
    have hkc := hide hk.1
    have z4 := hk.size
    have HO := hide ho
    clear ho hk
    go_wp2_with fail
    refine (l3Spoil (w.heap.size + 1) w3.heap.size r c A n cap xs _ hkc.out HO.out (by omega) (by omega) (by omega)).mono ?_; rintro e w5 ⟨⟨r', c', A', n', cap', ys, rfl, hnn', ho⟩, hk⟩
    have b5 := hide (Box3.kb b4.out hk (by omega) (by omega))
    have HB4 := hide (HK4.out.below HB1.out (by omega) (by omega) (by omega))
    have HB5 := hide (hk.below HB4.out (by omega) (by omega) (by omega))
    have HO5 := hide ho
    have hl := Own.lt ho
    clear ho hk HO
    obtain ⟨⟨x0, x1, x2⟩, f0, f1, f2⟩ := b5.out
    have pl := b5.out.lt
    obtain ⟨⟨m0, m1, m2⟩, _⟩ := Box3.stored b5.out (.int .i64 r') (.int .i64 c') (.slice A' n' cap')
    go_wp2
    exact bodyPost_ret (v := mv (r') (c') (.slice A' n' cap')) (by first | (simp [results, Try.results66, go_sem, m0, m1, m2]; done) | (simp [results, Try.results66, go_sem]; done)) rfl ⟨⟨r', c', A', n', cap', ys, rfl, hnn', Own.mono (Own.set (Own.set (Own.set HO5.out (own_nl hl (.inl (by dsimp only; omega))) _) (own_nl hl (.inl (by dsimp only; omega))) _) (own_nl hl (.inl (by dsimp only; omega))) _) (by omega)⟩, ((HB5.out.setCell (by dsimp only; omega) _).setCell (by dsimp only; omega) _).setCell (by dsimp only; omega) _⟩
theorem drawUni (cA : Option Addr) (cn ccap : Nat) (w : World) (hs : SlB w w.heap.size cA cn) (hn : cn ≤ 1048576) :
    Calls Try.prog 26 #[.slice cA cn ccap] w (OneM w) := by
  have b0 := hide (Box3.new (x := .int .i64 0) (y := .int .i64 0) (z := .slice none 0 0) w w.heap.size 28 rfl)
  have HBx : Hid (Below w.heap.size w (w.alloc (.cells #[.int .i64 0, .int .i64 0, .slice none 0 0] 28))) := (Below.refl _ _).alloc (Nat.le_refl _) _
  have HS := hide (SlB.mono (SlB.below hs HBx.out) HBx.out.size)
  clear hs
  go_enter Try.func26, Try.ntmps26
  go_wp2_with fail
  refine (drawL6 cA cn ccap _ HS.out hn).mono ?_; rintro e w2 ⟨⟨r, c, A, n, cap, xs, rfl, hnn, ho⟩, hb⟩
  have b2 := hide (b0.out.call hb)
  have HB2 := hide (kb_call HBx.out (Nat.le_refl _) hb)
  have z1 := hb.size
  simp only [World.size_alloc] at z1 ho
  have HO := hide ho
  have hl := Own.lt ho
  clear ho hb b0 HBx
  obtain ⟨⟨x0, x1, x2⟩, f0, f1, f2⟩ := b2.out
  have pl := b2.out.lt
  obtain ⟨⟨m0, m1, m2⟩, _⟩ := Box3.stored b2.out (.int .i64 r) (.int .i64 c) (.slice A n cap)
  go_wp2
  exact bodyPost_ret (v := mv (r) (c) (.slice A n cap)) (by first | (simp [results, Try.results26, go_sem, m0, m1, m2]; done) | (simp [results, Try.results26, go_sem]; done)) rfl ⟨⟨r, c, A, n, cap, xs, rfl, hnn, Own.mono (Own.set (Own.set (Own.set HO.out (own_nl hl (.inl (by dsimp only; omega))) _) (own_nl hl (.inl (by dsimp only; omega))) _) (own_nl hl (.inl (by dsimp only; omega))) _) (by omega)⟩, ((HB2.out.setCell (by dsimp only; omega) _).setCell (by dsimp only; omega) _).setCell (by dsimp only; omega) _⟩
theorem drawInv (cA : Option Addr) (cn ccap : Nat) (w : World) (hs : SlB w w.heap.size cA cn) (hn : cn ≤ 1048576) :
    Calls Try.prog 34 #[.slice cA cn ccap] w (OneM w) := by
  have b0 := hide (Box3.new (x := .int .i64 0) (y := .int .i64 0) (z := .slice none 0 0) w w.heap.size 28 rfl)
  have HBx : Hid (Below w.heap.size w (w.alloc (.cells #[.int .i64 0, .int .i64 0, .slice none 0 0] 28))) := (Below.refl _ _).alloc (Nat.le_refl _) _
  have HS := hide (SlB.mono (SlB.below hs HBx.out) HBx.out.size)
  clear hs
  go_enter Try.func34, Try.ntmps34
  go_wp2_with fail
  refine (drawL6 cA cn ccap _ HS.out hn).mono ?_; rintro e w2 ⟨⟨r, c, A, n, cap, xs, rfl, hnn, ho⟩, hb⟩
  have b2 := hide (b0.out.call hb)
  have HB2 := hide (kb_call HBx.out (Nat.le_refl _) hb)
  have z1 := hb.size
  simp only [World.size_alloc] at z1 ho
  have HO := hide ho
  have hl := Own.lt ho
  clear ho hb b0 HBx
  obtain ⟨⟨x0, x1, x2⟩, f0, f1, f2⟩ := b2.out
  have pl := b2.out.lt
  obtain ⟨⟨m0, m1, m2⟩, _⟩ := Box3.stored b2.out (.int .i64 r) (.int .i64 c) (.slice A n cap)
  go_wp2
  exact bodyPost_ret (v := mv (r) (c) (.slice A n cap)) (by first | (simp [results, Try.results34, go_sem, m0, m1, m2]; done) | (simp [results, Try.results34, go_sem]; done)) rfl ⟨⟨r, c, A, n, cap, xs, rfl, hnn, Own.mono (Own.set (Own.set (Own.set HO.out (own_nl hl (.inl (by dsimp only; omega))) _) (own_nl hl (.inl (by dsimp only; omega))) _) (own_nl hl (.inl (by dsimp only; omega))) _) (by omega)⟩, ((HB2.out.setCell (by dsimp only; omega) _).setCell (by dsimp only; omega) _).setCell (by dsimp only; omega) _⟩
end Go.Proofs.Ytchlaebkigmfgaa
namespace Go.Proofs.Ytchlaebkigmfgaa
open Go.RowKit
set_option linter.unusedSimpArgs false
set_option linter.unusedVariables false

/-- What the cell of row i in column q becomes. -/
def spV (C kind i j : Nat) (t : Int) (xs : List Int) (q : Nat) : Int := if kind = 1 then mulZ (xs.getD (i * C + q) 0) (-1) else addZ (xs.getD (i * C + q) 0) (mulZ (xs.getD (j * C + q) 0) t)
def spTo (C kind i j : Nat) (t : Int) (xs : List Int) (k : Nat) : Nat → Int := fun p => if p / C = i ∧ p % C < k then spV C kind i j t xs (p % C) else xs.getD p 0
def spL (R C kind i j : Nat) (t : Int) (xs : List Int) : List Int := tab (R * C) (spTo C kind i j t xs C)
theorem spTo_start {R C kind i j : Nat} {t : Int} {xs : List Int} (h : xs.length = R * C) : xs = tab (R * C) (spTo C kind i j t xs 0) := by
  rw [show tab (R * C) (spTo C kind i j t xs 0) = tab xs.length (fun p => xs.getD p 0) from by rw [h]; exact tab_congr fun p _ => by simp [spTo], tab_self]
theorem spTo_at {C kind i j k a : Nat} {t : Int} {xs : List Int} (hk : k < C) : spTo C kind i j t xs k (a * C + k) = xs.getD (a * C + k) 0 := by
  simp only [spTo, ix_mod hk]
  rw [if_neg (by omega)]
theorem spTo_step {R C kind i j k : Nat} {t v : Int} {xs : List Int} (_hi : i < R) (hk : k < C) (hv : v = spV C kind i j t xs k) :
    (tab (R * C) (spTo C kind i j t xs k)).set (i * C + k) v = tab (R * C) (spTo C kind i j t xs (k + 1)) := by
  refine tab_set (fun _ => ?_) (fun p hp hne => ?_)
  · simp only [spTo, ix_mod hk, ix_div hk]
    rw [if_pos ⟨trivial, by omega⟩, hv]
  · have h := ix_of hp
    simp only [spTo]
    by_cases h1 : p / C = i ∧ p % C < k
    · rw [if_pos h1, if_pos ⟨h1.1, by omega⟩]
    · rw [if_neg h1, if_neg]
      rintro ⟨e, h2⟩
      have h3 : p % C = k := by
        by_cases h4 : p % C < k
        · exact absurd ⟨e, h4⟩ h1
        · omega
      exact hne (by rw [← h.2.2, e, h3])
theorem mulZ_num {a b : Int} (ha : isNum a = true) (hb : isNum b = true) : mulZ a b = fitN (a * b) := by
  have h1 := num_ne ha
  have h2 := num_ne hb
  have h3 := mul_in (isNum_t ha) (isNum_t hb)
  rw [mulZ, if_neg (by simp [h1, h2]), IntWalk.wrap64_in _ (by omega)]
theorem spV_one {C i j q : Nat} {t : Int} {xs : List Int} (hu : isNum (xs.getD (i * C + q) 0) = true) : spV C 1 i j t xs q = - xs.getD (i * C + q) 0 := by
  have h := isNum_t hu
  rw [spV, if_pos rfl, mulZ_num hu (by decide), fitN, show xs.getD (i * C + q) 0 * -1 = - xs.getD (i * C + q) 0 from by omega, if_pos (isNum_mk (by omega))]
theorem spV_two {C i j q : Nat} {t : Int} {xs : List Int} (hu : isNum (xs.getD (i * C + q) 0) = true) (hv : isNum (xs.getD (j * C + q) 0) = true) (ht : isNum t = true) :
    spV C 2 i j t xs q = if okAt C i j t xs q = true then xs.getD (i * C + q) 0 + xs.getD (j * C + q) 0 * t else badN := by
  have hun := num_ne hu
  have hub := isNum_t hu
  rw [spV, if_neg (by decide), mulZ_num hv ht]
  generalize hm : xs.getD (j * C + q) 0 * t = m
  have ek : okAt C i j t xs q = (isNum m && isNum (xs.getD (i * C + q) 0 + m)) := by rw [okAt, hm]
  rw [ek]
  clear ek hm
  generalize xs.getD (i * C + q) 0 = u at *
  simp only [Bool.and_eq_true]
  by_cases h1 : isNum m = true
  · have hmb := isNum_t h1
    rw [show fitN m = m from by rw [fitN, if_pos h1], addZ, if_neg (by simp [hun, num_ne h1]), IntWalk.wrap64_in _ (by omega), fitN]
    by_cases h2 : isNum (u + m) = true
    · rw [if_pos h2, if_pos ⟨h1, h2⟩]
    · rw [if_neg h2, if_neg (fun x => h2 x.2)]
  · rw [show fitN m = badN from by rw [fitN, if_neg h1], addZ, if_pos (.inr rfl), if_neg (fun x => h1 x.1)]
theorem opNew_one (i j : Nat) (t : Int) (M : Det.Mat) (a b : Nat) : opNew 1 i j t M a b = if a = i then - M i b else M a b := by simp [opNew]
theorem opNew_two (i j : Nat) (t : Int) (M : Det.Mat) (a b : Nat) : opNew 2 i j t M a b = if a = i then M i b + M j b * t else M a b := by simp [opNew]
/-- What the operation leaves. -/
def dL (R C kind i j : Nat) (t : Int) (xs : List Int) : List Int := if kind = 0 then opL R C 0 i j 0 xs else spL R C kind i j t xs
theorem dL_length {R C kind i j : Nat} {t : Int} {xs : List Int} : (dL R C kind i j t xs).length = R * C := by
  unfold dL
  split
  · rw [opL, ofM_length]
  · rw [spL, tab_length]
theorem cell_num {R C : Nat} {xs : List Int} (h : isMat R C xs = true) {a b : Nat} (ha : a < R) (hb : b < C) : isNum (xs.getD (a * C + b) 0) = true := isMat_cells h a b ha hb
theorem dL_ok {R C k i j : Nat} {t : Int} {xs : List Int} (hm : isMat R C xs = true) (ho : isRowOp k i j t R = true) (hg : opGo k C i j t xs = true) :
    dL R C k i j t xs = opL R C k i j t xs ∧ isMat R C (opL R C k i j t xs) = true := by
  obtain ⟨hi, hj, ht, hk⟩ := isRowOp_t ho
  have hb := (isMat_t hm)
  have hR : R ≤ 24 := by omega
  have hC : C ≤ 24 := by omega
  have hc := isMat_cells hm
  rcases hk with ⟨rfl, hij, rfl⟩ | ⟨rfl, rfl, rfl⟩ | ⟨rfl, hij⟩
  · refine ⟨by rw [dL, if_pos rfl], isMat_ofM.2 ⟨hR, hC, fun a b ha hb => ?_⟩⟩
    simp only [opNew, if_true]
    split
    · exact hc _ _ hj hb
    · split
      · exact hc _ _ hi hb
      · exact hc _ _ ha hb
  · refine ⟨?_, isMat_ofM.2 ⟨hR, hC, fun a b ha hb => ?_⟩⟩
    · rw [dL, if_neg (by decide), spL, opL, ofM]
      refine tab_congr fun p hp => ?_
      have h := ix_of hp
      rw [opNew_one]
      simp only [spTo]
      by_cases e : p / C = i
      · rw [if_pos ⟨e, h.2.1⟩, if_pos e, spV_one (cell_num hm hi h.2.1)]; rfl
      · rw [if_neg (fun x => e x.1), if_neg e, toM, h.2.2]
    · rw [opNew_one]
      split
      · have := isNum_t (hc i b hi hb)
        exact isNum_mk (by omega)
      · exact hc _ _ ha hb
  · have hg' : ∀ q, q < C → okAt C i j t xs q = true := fun q hq => by
      simp only [opGo, ne_eq, not_true, decide_false, Bool.false_or, opOk, List.all_eq_true] at hg
      exact hg q (List.mem_range.2 hq)
    refine ⟨?_, isMat_ofM.2 ⟨hR, hC, fun a b ha hb => ?_⟩⟩
    · rw [dL, if_neg (by decide), spL, opL, ofM]
      refine tab_congr fun p hp => ?_
      have h := ix_of hp
      rw [opNew_two]
      simp only [spTo]
      by_cases e : p / C = i
      · rw [if_pos ⟨e, h.2.1⟩, if_pos e, spV_two (cell_num hm hi h.2.1) (cell_num hm hj h.2.1) (isNum_mk ht), if_pos (hg' _ h.2.1)]; rfl
      · rw [if_neg (fun x => e x.1), if_neg e, toM, h.2.2]
    · rw [opNew_two]
      split
      · have := hg' b hb
        simp only [okAt, Bool.and_eq_true] at this
        exact this.2
      · exact hc _ _ ha hb
theorem dL_no {R C k i j : Nat} {t : Int} {xs : List Int} (hm : isMat R C xs = true) (ho : isRowOp k i j t R = true) (hg : opGo k C i j t xs = false) : isMat R C (dL R C k i j t xs) = false := by
  obtain ⟨hi, hj, ht, hk⟩ := isRowOp_t ho
  simp only [opGo, Bool.or_eq_false_iff, decide_eq_false_iff_not, Decidable.not_not] at hg
  obtain ⟨rfl, hg⟩ := hg
  rcases Bool.eq_false_or_eq_true (isMat R C (dL R C 2 i j t xs)) with h | h
  · exfalso
    have : opOk C i j t xs = true := by
      simp only [opOk, List.all_eq_true]
      intro q hq
      have hq := List.mem_range.1 hq
      rcases Bool.eq_false_or_eq_true (okAt C i j t xs q) with e | e
      · exact e
      · exfalso
        have h1 := cell_num h hi hq
        rw [dL, if_neg (by decide), spL, tab_getD _ (ix_lt hi hq), spTo, ix_div hq, ix_mod hq, if_pos ⟨rfl, hq⟩, spV_two (cell_num hm hi hq) (cell_num hm hj hq) (isNum_mk ht), if_neg (by simp [e]), badN_no] at h1
        cases h1
    rw [this] at hg; cases hg
  · exact h
set_option maxRecDepth 100000 in
set_option maxHeartbeats 8000000 in
theorem specDoSp (R C i j : Nat) (kn : Nat) (kind t : Int) (hkn : kind = kn) (g cap lo N : Nat) (xs : List Int) (w : World) (hO : Own w lo (.slice (some ⟨g, 0, none⟩) N cap) xs) (hl : xs.length = N) (hN : R * C = N) (hk12 : kn = 1 ∨ kn = 2) (HR : R ≤ 24) (HC : C ≤ 24) (hi : i < R) (hj : j < R) :
    Calls Try.prog 49 #[mv R C (.slice (some ⟨g, 0, none⟩) N cap), opv kind i j t] w fun e w' => e = .returned (.tuple #[]) ∧ Own w' lo (.slice (some ⟨g, 0, none⟩) N cap) (spL R C kn i j t xs) ∧ w.grownBy w' (some g) := by
  have HST : Hid (∀ k v, k < C → v = spV C kn i j t xs k → (tab N (spTo C kn i j t xs k)).set (i * C + k) v = tab N (spTo C kn i j t xs (k + 1))) := fun k v hk hv => by rw [← hN]; exact spTo_step hi hk hv
  have HAT : Hid (∀ a k, k < C → spTo C kn i j t xs k (a * C + k) = xs.getD (a * C + k) 0) := fun a k hk => spTo_at hk
  have HEN : Hid (spL R C kn i j t xs = tab N (spTo C kn i j t xs C)) := by rw [Hid, ← hN]; rfl
  rw [HEN.out]
  rw [show xs = tab N (spTo C kn i j t xs 0) from by rw [← hN]; exact spTo_start (by rw [hl, hN])] at hO
  have HKN := hide (And.intro hkn hk12)
  clear hkn hk12
  have hn : N ≤ 576 := by rw [← hN]; exact Nat.mul_le_mul HR HC
  have HI : Hid (∀ k, k < C → i * C + k < N) := fun k hk => by rw [← hN]; exact ix_lt hi hk
  have HJ : Hid (∀ k, k < C → j * C + k < N) := fun k hk => by rw [← hN]; exact ix_lt hj hk
  have hgl := (Own.lt hO g rfl).2
  have HO := hide (Own.alloc (Own.alloc hO (.cells #[.int .i64 R, .int .i64 C, .slice (some ⟨g, 0, none⟩) N cap] 28)) (.cells #[.int .i64 kind, .int .i64 i, .int .i64 j, .int .i64 t] 51))
  have HMB : Hid (Box3 ((w.alloc (.cells #[.int .i64 R, .int .i64 C, .slice (some ⟨g, 0, none⟩) N cap] 28)).alloc (.cells #[.int .i64 kind, .int .i64 i, .int .i64 j, .int .i64 t] 51)) w.heap.size (.int .i64 R) (.int .i64 C) (.slice (some ⟨g, 0, none⟩) N cap)) := (Box3.new _ _ _ rfl).alloc _
  have HOB : Hid (OpBox ((w.alloc (.cells #[.int .i64 R, .int .i64 C, .slice (some ⟨g, 0, none⟩) N cap] 28)).alloc (.cells #[.int .i64 kind, .int .i64 i, .int .i64 j, .int .i64 t] 51)) (w.heap.size + 1) kind i j t) := OpBox.new _ _ _ (by simp)
  have HGR : Hid (w.grownBy ((w.alloc (.cells #[.int .i64 R, .int .i64 C, .slice (some ⟨g, 0, none⟩) N cap] 28)).alloc (.cells #[.int .i64 kind, .int .i64 i, .int .i64 j, .int .i64 t] 51)) (some g)) := grownBy_trans (World.grownBy_alloc w _ _) (World.grownBy_alloc _ _ _)
  clear hO hN hl
  go_enter Try.func49, Try.ntmps49
  go_wp2_with fail
  go_loopw [4] (fun kv wr => ∃ (k : Nat), k ≤ C ∧ kv = .int .i64 k ∧ Own wr lo (.slice (some ⟨g, 0, none⟩) N cap) (tab N (spTo C kn i j t xs k)) ∧ Box3 wr w.heap.size (.int .i64 R) (.int .i64 C) (.slice (some ⟨g, 0, none⟩) N cap) ∧ OpBox wr (w.heap.size + 1) kind i j t ∧ w.grownBy wr (some g)) (fun kv _ => C - (intOf kv).toNat)
  case atStart => exact ⟨0, Nat.zero_le _, rfl, HO.out, HMB.out, HOB.out, HGR.out⟩
  case round =>
    clear HO HMB HOB HGR
    obtain ⟨k, hk, rfl, ho, bx, ob, hg⟩ := hrel
    obtain ⟨wo, rfl⟩ : ∃ wo : World, wo = wr := ⟨_, rfl⟩
    have HO := hide ho
    have BX := hide bx
    have OB := hide ob
    have HGR := hide hg
    obtain ⟨⟨a0, a1, a2⟩, _⟩ := bx
    obtain ⟨b0, b1, b2, b3⟩ := ob
    clear ho hg
    by_cases hlt : k < C
    · have h1 := HI.out k hlt
      have h2 := HJ.out k hlt
      have c1 := own_cell HO.out h1
      have c2 := own_cell HO.out h2
      rw [HAT.out i k hlt] at c1
      rw [HAT.out j k hlt] at c2
      have z1 := own_free HO.out (i * C + k)
      have z2 := own_free HO.out (j * C + k)
      obtain ⟨u, hu⟩ : ∃ u, xs.getD (i * C + k) 0 = u := ⟨_, rfl⟩
      obtain ⟨v, hv⟩ : ∃ v, xs.getD (j * C + k) 0 = v := ⟨_, rfl⟩
      rw [hu] at c1
      rw [hv] at c2
      have hv1 : kn = 1 → mulZ u (-1) = spV C kn i j t xs k := fun e => by rw [spV, if_pos e, hu]
      have hv2 : kn ≠ 1 → addZ u (mulZ v t) = spV C kn i j t xs k := fun e => by rw [spV, if_neg e, hu, hv]
      have ST1 : Hid (kn = 1 → (tab N (spTo C kn i j t xs k)).set (i * C + k) (mulZ u (-1)) = tab N (spTo C kn i j t xs (k + 1))) := fun e => HST.out k _ hlt (hv1 e)
      have ST2 : Hid (kn ≠ 1 → (tab N (spTo C kn i j t xs k)).set (i * C + k) (addZ u (mulZ v t)) = tab N (spTo C kn i j t xs (k + 1))) := fun e => HST.out k _ hlt (hv2 e)
      clear hv1 hv2
      have e1 : (i : Int) * C + k = ((i * C + k : Nat) : Int) := by push_cast; rfl
      have e2 : (j : Int) * C + k = ((j * C + k : Nat) : Int) := by push_cast; rfl
      have i0 : 0 ≤ (i : Int) * C := Int.mul_nonneg (by omega) (by omega)
      have j0 : 0 ≤ (j : Int) * C := Int.mul_nonneg (by omega) (by omega)
      obtain ⟨d1, hd1⟩ : ∃ d, i * C + k = d := ⟨_, rfl⟩
      obtain ⟨d2, hd2⟩ : ∃ d, j * C + k = d := ⟨_, rfl⟩
      have ST1' := ST1.out
      have ST2' := ST2.out
      rw [hd1] at ST1' ST2'
      clear ST1 ST2
      have ST1 := hide ST1'
      have ST2 := hide ST2'
      clear ST1' ST2'
      rw [hd1] at h1 c1 z1 e1
      rw [hd2] at h2 c2 z2 e2
      have q1 : IntKind.i64.wrap ((i : Int) * C) = (i : Int) * C := IntWalk.i64_in _ (by omega)
      have q2 : IntKind.i64.wrap ((j : Int) * C) = (j : Int) * C := IntWalk.i64_in _ (by omega)
      have q3 : IntKind.i64.wrap (d1 : Int) = (d1 : Int) := IntWalk.i64_in _ (by omega)
      have q4 : IntKind.i64.wrap (d2 : Int) = (d2 : Int) := IntWalk.i64_in _ (by omega)
      have y1 : (0 : Int) ≤ (d1 : Int) := by omega
      have y2 : (0 : Int) ≤ (d2 : Int) := by omega
      have y3 : (d1 : Int) < (N : Int) := by omega
      have y4 : (d2 : Int) < (N : Int) := by omega
      have g1 : w.heap.size ≠ g := by omega
      have g2 : w.heap.size + 1 ≠ g := by omega
      clear hu hv hd1 hd2 i0 j0
      have k0 : ¬ kind = 0 := by have := HKN.out; omega
      have hkn := HKN.out
      have dk : (kind == 0) = false := by simpa using k0
      by_cases k1 : kind = 1
      · have dk1 : (kind == 1) = true := by simpa using k1
        have S1 := hide (own_store HO.out (ST1.out (by omega)))
        clear k0 k1 hkn
        go_wp2_with fail
        go_still_tail 12, (by kernel_rfl)
        still_call (specMulAny _ _ _)
        repeat still_step
        refine wpStill_nil ?_
        go_wp2_with fail
        go_roundw
        case rel => exact ⟨k + 1, by omega, by go_num, S1.out.1, Box3.drew (BX.out.grown S1.out.2 (by simpa using g1)), opBox_drew (OB.out.grown S1.out.2 (by simpa using g2)), drew_grown (grownBy_trans HGR.out S1.out.2)⟩
        case measure => simp [intOf]; omega
      · have dk1 : (kind == 1) = false := by simpa using k1
        have S1 := hide (own_store HO.out (ST2.out (by omega)))
        clear k0 k1 hkn
        go_wp2_with fail
        go_still_tail 16, (by kernel_rfl)
        still_call (specMulAny _ _ _)
        still_call (specAddAny _ _ _)
        repeat still_step
        refine wpStill_nil ?_
        go_wp2_with fail
        go_roundw
        case rel => exact ⟨k + 1, by omega, by go_num, S1.out.1, Box3.drew (BX.out.grown S1.out.2 (by simpa using g1)), opBox_drew (OB.out.grown S1.out.2 (by simpa using g2)), drew_grown (grownBy_trans HGR.out S1.out.2)⟩
        case measure => simp [intOf]; omega
    · have hkk : k = C := by omega
      subst hkk
      go_wp2_with fail
      go_returns
      exact ⟨rfl, HO.out, HGR.out⟩

theorem specDoEx (R C k i j : Nat) (t : Int) (g cap lo N : Nat) (xs : List Int) (w : World) (hO : Own w lo (.slice (some ⟨g, 0, none⟩) N cap) xs) (hl : xs.length = N) (hN : R * C = N) (HR : R ≤ 24) (HC : C ≤ 24) (ho : isRowOp k i j t R = true) :
    Calls Try.prog 49 #[mv R C (.slice (some ⟨g, 0, none⟩) N cap), opv k i j t] w fun e w' => e = .returned (.tuple #[]) ∧ Own w' lo (.slice (some ⟨g, 0, none⟩) N cap) (dL R C k i j t xs) ∧ w.grownBy w' (some g) := by
  obtain ⟨hi, hj, ht, hk⟩ := isRowOp_t ho
  rcases hk with ⟨rfl, hij, rfl⟩ | ⟨rfl, rfl, rfl⟩ | ⟨rfl, hij⟩
  · subst hN
    rw [dL, if_pos rfl]
    exact specDoSwap R C i j g cap lo xs w hO hl HR HC hi hj hij
  · rw [dL, if_neg (by decide)]
    exact specDoSp R C i i 1 1 0 rfl g cap lo N xs w hO hl hN (.inl rfl) HR HC hi hj
  · rw [dL, if_neg (by decide)]
    exact specDoSp R C i j 2 2 t rfl g cap lo N xs w hO hl hN (.inr rfl) HR HC hi hj
end Go.Proofs.Ytchlaebkigmfgaa
namespace Go.Proofs.Ytchlaebkigmfgaa
open Go.RowKit
set_option linter.unusedSimpArgs false
set_option linter.unusedVariables false
theorem idTo_ofM (n : Nat) : ∀ k, k ≤ n → idTo n k = ofM n n (fun i j => if i = j ∧ i < k then 1 else 0) := by
  intro k
  induction k with
  | zero =>
    intro _
    rw [idTo, tab_zeros, ofM]
    exact tab_congr fun p _ => by simp
  | succ k ih =>
    intro hk
    rw [idTo, ih (by omega)]
    refine tab_set (fun _ => ?_) (fun p hp hne => ?_)
    · show (if (k * n + k) / n = (k * n + k) % n ∧ (k * n + k) / n < k + 1 then (1 : Int) else 0) = 1
      rw [ix_div (by omega), ix_mod (by omega), if_pos ⟨rfl, by omega⟩]
    · have h := ix_of hp
      show (if p / n = p % n ∧ p / n < k + 1 then (1 : Int) else 0) = if p / n = p % n ∧ p / n < k then 1 else 0
      by_cases e : p / n = p % n ∧ p / n < k + 1
      · by_cases e2 : p / n = k
        · exfalso
          have h3 := h.2.2
          rw [← e.1, e2] at h3
          exact hne h3.symm
        · rw [if_pos e, if_pos ⟨e.1, by omega⟩]
      · rw [if_neg e, if_neg (fun x => e ⟨x.1, by omega⟩)]
theorem id_ofM (n : Nat) : idTo n n = ofM n n Det.one := by
  rw [idTo_ofM n n (Nat.le_refl _)]
  refine ofM_congr fun i j hi hj => ?_
  show _ = if i = j then _ else _
  by_cases e : i = j
  · rw [if_pos e, if_pos ⟨e, hi⟩]
  · rw [if_neg e, if_neg (fun x => e x.1)]
theorem id_isMat {n : Nat} (h : n ≤ 24) : isMat n n (idTo n n) = true := by
  rw [id_ofM]
  refine isMat_ofM.2 ⟨h, h, fun i j _ _ => ?_⟩
  show isNum (if i = j then 1 else 0) = true
  split <;> decide
theorem det_id (n : Nat) : Det.det n (toM n (idTo n n)) = 1 := by
  rw [← Det.det_one n, id_ofM]
  exact Det.det_congr fun i j hi hj => toM_ofM _ hi hj
/-- What mix draws. -/
def MixP (n : Nat) (r c : Int) (zs : List Int) : Prop := (r = n ∧ c = n ∧ isMat n n zs = true ∧ Det.det n (toM n zs) = 1) ∨ (r = 0 ∧ c = 0 ∧ zs = [] ∧ n ≠ 0)
theorem mixP_len {n : Nat} {r c : Int} {zs : List Int} (h : MixP n r c zs) : zs.length ≤ 576 := by
  rcases h with ⟨rfl, rfl, h, _⟩ | ⟨_, _, rfl, _⟩
  · exact (isMat_t h).2.2.2.2.2.2
  · simp
theorem mixP_r {n : Nat} {r c : Int} {zs : List Int} (h : MixP n r c zs) : 0 ≤ r ∧ r ≤ n := by
  rcases h with ⟨h, _⟩ | ⟨h, _⟩ <;> omega
theorem mix_start {n : Nat} (h : n ≤ 24) : MixP n n n (idTo n n) := .inl ⟨rfl, rfl, id_isMat h, det_id n⟩
theorem mix_step {n : Nat} {r c : Int} {zs : List Int} (h : MixP n r c zs) (hn : 1 < n) {I J : Nat} (hI : I < n) (hJ : J < n) (hIJ : I ≠ J) (t : Int) :
    MixP n (opRes r c zs 2 I J t).R (opRes r c zs 2 I J t).C (opRes r c zs 2 I J t).L := by
  unfold opRes
  split
  · rename_i hh
    simp only [Bool.and_eq_true, opIn] at hh
    obtain ⟨⟨hm, ho⟩, hg⟩ := hh
    rcases h with ⟨rfl, rfl, hz, hd⟩ | ⟨rfl, rfl, rfl, _⟩
    · refine .inl ⟨rfl, rfl, ?_, ?_⟩
      · exact (dL_ok (k := 2) (i := I) (j := J) hz ho hg).2
      · rw [← hd, ← (Det.det_alt n).added (toM n zs) I J t hI hJ hIJ]
        refine Det.det_congr fun a b ha hb => ?_
        show toM n (opL n n 2 I J t zs) a b = _
        rw [opL, toM_ofM _ ha hb, opNew_two, Det.setRow]
        by_cases e : a = I
        · rw [if_pos e, if_pos e, Int.mul_comm t]
        · rw [if_neg e, if_neg e]
    · exfalso
      simp only [isRowOp, Bool.and_eq_true, decide_eq_true_eq] at ho
      omega
  · exact .inr ⟨rfl, rfl, rfl, by omega⟩
end Go.Proofs.Ytchlaebkigmfgaa
namespace Go.Proofs.Ytchlaebkigmfgaa
open Go.RowKit
set_option linter.unusedSimpArgs false
set_option linter.unusedVariables false
theorem det_some {r c : Int} {xs : List Int} (h : (detRes r c xs).2 = true) : ∃ n : Nat, r = n ∧ c = n ∧ n ≤ 6 ∧ xs.length = n * n ∧ isMat n n xs = true ∧ (detRes r c xs).1 = Det.det n (toM n xs) := by
  by_cases hq : isSq r c xs = true
  · obtain ⟨n, rfl, rfl, h6, hl, _, hm⟩ := isSq_t hq
    have e : detRes n n xs = detVal (detL n xs) := by rw [detRes, if_pos hq]; rfl
    rw [e] at h ⊢
    refine ⟨n, rfl, rfl, h6, hl, hm, ?_⟩
    cases hd : detL n xs with
    | none => rw [hd] at h; cases h
    | some d => exact detO_det hd
  · rw [detRes, if_neg hq] at h; cases h
theorem det_mulL {n : Nat} {us ys : List Int} : Det.det n (toM n (mulL n n n us ys)) = Det.det n (toM n us) * Det.det n (toM n ys) := by
  rw [← Det.det_mul]
  exact Det.det_congr fun i j hi hj => by rw [mulL, toM_ofM _ hi hj]
theorem prod_law {ra ca rb cb : Int} {us ys : List Int} {P : MRes} (hP : mulRes ra ca us rb cb ys = P) (kp : P.ok = true) (k1 : (detRes ra ca us).2 = true) (k2 : (detRes rb cb ys).2 = true) (k3 : (detRes P.R P.C P.L).2 = true) :
    (detRes ra ca us).1 * (detRes rb cb ys).1 = (detRes P.R P.C P.L).1 := by
  obtain ⟨n, rfl, rfl, _, _, _, e1⟩ := det_some k1
  obtain ⟨m, rfl, rfl, _, _, _, e2⟩ := det_some k2
  rcases mul_cases n n us m m ys with h | ⟨R, C, C', f1, f2, f3, f4, m1, m2, m3⟩
  · rw [h] at hP; subst hP; exact absurd kp (by simp [MRes.no])
  obtain rfl : n = R := by omega
  obtain rfl : n = C := by omega
  obtain rfl : n = C' := by omega
  obtain rfl : m = n := by omega
  rw [mul_res m1 m2 m3] at hP
  subst hP
  obtain ⟨k, g1, _, _, _, _, e3⟩ := det_some k3
  obtain rfl : m = k := by
    have : (m : Int) = k := g1
    omega
  rw [e1, e2, e3]
  exact det_mulL.symm
theorem isNum_sq {a b : Int} (ha : -400000000 ≤ a ∧ a ≤ 400000000) (hb : -400000000 ≤ b ∧ b ≤ 400000000) : -160000000000000000 ≤ a * b ∧ a * b ≤ 160000000000000000 := mul_in ha hb

theorem mix_law {n : Nat} {mr mc : Int} {zs us : List Int} (hm : MixP n mr mc zs) {P : MRes} (hP : mulRes mr mc zs n n us = P) (kp : P.ok = true) (k1 : (detRes n n us).2 = true) (k3 : (detRes P.R P.C P.L).2 = true) :
    (detRes n n us).1 = (detRes P.R P.C P.L).1 := by
  obtain ⟨n', e0, _, _, _, _, e1⟩ := det_some k1
  obtain rfl : n = n' := by omega
  rcases mul_cases mr mc zs n n us with h | ⟨R, C, C', f1, f2, f3, f4, m1, m2, m3⟩
  · rw [h] at hP; subst hP; exact absurd kp (by simp [MRes.no])
  obtain rfl : n = C' := by omega
  obtain rfl : n = C := by omega
  rcases hm with ⟨g1, g2, g3, g4⟩ | ⟨g1, g2, g3, g4⟩
  · obtain rfl : n = R := by omega
    subst f1
    rw [f2, mul_res m1 m2 m3] at hP
    subst hP
    obtain ⟨k, h1, _, _, _, _, e3⟩ := det_some k3
    obtain rfl : n = k := by
      have : (n : Int) = k := h1
      omega
    rw [e1, e3]
    show _ = Det.det n (toM n (mulL n n n zs us))
    rw [det_mulL, g4, Int.one_mul]
  · omega
theorem turn_law {n : Nat} {us : List Int} (k1 : (detRes n n us).2 = true) {T : MRes} (hT : trRes n n us = T) (k3 : (detRes T.R T.C T.L).2 = true) : (detRes n n us).1 = (detRes T.R T.C T.L).1 := by
  obtain ⟨n', e0, _, _, _, hm, e1⟩ := det_some k1
  obtain rfl : n = n' := by omega
  rw [tr_res hm] at hT
  subst hT
  obtain ⟨k, h1, _, _, _, _, e3⟩ := det_some k3
  obtain rfl : n = k := by
    have : (n : Int) = k := h1
    omega
  rw [e1, e3, ← Det.det_tr]
  exact Det.det_congr fun i j hi hj => (toM_ofM _ hi hj).symm
end Go.Proofs.Ytchlaebkigmfgaa
namespace Go.Proofs.Ytchlaebkigmfgaa
open Go.RowKit
set_option linter.unusedSimpArgs false
set_option linter.unusedVariables false
theorem adj_some {r c : Int} {xs : List Int} {A : MRes} (h : adjRes r c xs = A) (k : A.ok = true) : ∃ n : Nat, r = n ∧ c = n ∧ n ≤ 6 ∧ isMat n n xs = true ∧ A = ⟨n, n, adjL n xs, true⟩ ∧ (∀ i j, i < n → j < n → toM n (adjL n xs) i j = Det.adj n (toM n xs) i j) := by
  unfold adjRes at h
  split at h
  · rename_i hh
    simp only [Bool.and_eq_true] at hh
    obtain ⟨n, rfl, rfl, h6, hl, _, hm⟩ := isSq_t hh.1
    refine ⟨n, rfl, rfl, h6, hm, h.symm, fun i j hi hj => ?_⟩
    have hb : adjB n xs = true := hh.2
    obtain ⟨d, hd⟩ := adjB_t hb hj hi
    rw [adjL, toM_ofM _ hi hj]
    show toM n (adjV n xs) j i = _
    rw [adjV, toM_ofM _ hj hi, hd]
    show Det.sgn (j + i) * d = Det.sgn (i + j) * Det.det (n - 1) (Det.minor (toM n xs) j i)
    rw [Nat.add_comm j i]
    congr 1
    rw [mdet, detL] at hd
    rw [detO_det hd]
    exact Det.det_congr fun a b ha hb => by rw [crossL, toM_ofM _ ha hb]
  · subst h; exact absurd k (by simp [MRes.no])
theorem mul_unit {n : Nat} {us vs : List Int} {d : Int} (h : ∀ i j, i < n → j < n → Det.mul n (toM n us) (toM n vs) i j = if i = j then d else 0) : mulL n n n us vs = scL (idTo n n) d := by
  rw [id_ofM, scL, ofM_length]
  show tab _ _ = tab _ _
  refine tab_congr fun p hp => ?_
  have hx := ix_of hp
  rw [h _ _ hx.1 hx.2.1, ofM, tab_getD _ hp]
  show _ = (if p / n = p % n then 1 else 0) * d
  split <;> simp
theorem adj_law {r c : Int} {us : List Int} {A P : MRes} (hA : adjRes r c us = A) (kA : A.ok = true) (hk : (detRes r c us).2 = true) (hP : mulRes r c us A.R A.C A.L = P) (kP : P.ok = true) :
    ∃ n : Nat, r = n ∧ n ≤ 6 ∧ ∀ W : MRes, scRes n n (idTo n n) (detRes r c us).1 = W → W.ok = true → sameB P.R P.C P.L W.R W.C W.L = true := by
  obtain ⟨n, rfl, rfl, h6, hm, rfl, ha⟩ := adj_some hA kA
  obtain ⟨n', e0, _, _, _, _, e1⟩ := det_some hk
  obtain rfl : n = n' := by omega
  refine ⟨n, rfl, h6, fun W hW kW => ?_⟩
  rcases mul_cases n n us n n (adjL n us) with h | ⟨R, C, C', f1, f2, f3, f4, m1, m2, m3⟩
  · have hP' : mulRes n n us n n (adjL n us) = P := hP
    rw [h] at hP'; subst hP'; exact absurd kP (by simp [MRes.no])
  obtain rfl : n = R := by omega
  obtain rfl : n = C := by omega
  obtain rfl : n = C' := by omega
  have hP' : mulRes n n us n n (adjL n us) = P := hP
  rw [mul_res m1 m2 m3] at hP'
  have eW : W = ⟨n, n, scL (idTo n n) (detRes n n us).1, true⟩ := by
    unfold scRes at hW
    split at hW
    · exact hW.symm
    · subst hW; exact absurd kW (by simp [MRes.no])
  subst hP'
  rw [eW]
  show sameB n n (mulL n n n us (adjL n us)) n n (scL (idTo n n) (detRes n n us).1) = true
  rw [mul_unit (d := (detRes n n us).1) (fun i j hi hj => by
    rw [e1, ← Det.mul_adj n (toM n us) i j hi hj]
    exact Det.sum_congr fun k hk => by rw [ha k j hk hj])]
  exact same_mk
theorem inv_no {r c : Int} {us : List Int} {V : MRes} (hV : invRes r c us = V) (kV : V.ok = false) : V.L = [] := by
  unfold invRes at hV
  split at hV
  · unfold scRes at hV
    split at hV
    · subst hV; cases kV
    · subst hV; rfl
  · subst hV; rfl
theorem unit_isMat {n : Nat} (h : n ≤ 24) : isMat n n (scL (idTo n n) 1) = true ∧ scL (idTo n n) 1 = idTo n n := by
  have e : scL (idTo n n) 1 = idTo n n := by
    rw [scL]
    conv => rhs; rw [← tab_self (idTo n n)]
    exact tab_congr fun p _ => by simp
  exact ⟨by rw [e]; exact id_isMat h, e⟩
theorem inv_law {r c : Int} {us : List Int} {V : MRes} (hV : invRes r c us = V) (kV : V.ok = true) :
    ∃ n : Nat, r = n ∧ c = n ∧ n ≤ 6 ∧ (detRes r c us).1.natAbs = 1 ∧ mulRes r c us V.R V.C V.L = ⟨n, n, idTo n n, true⟩ ∧ mulRes V.R V.C V.L r c us = ⟨n, n, idTo n n, true⟩ := by
  unfold invRes at hV
  split at hV
  case isFalse => subst hV; exact absurd kV (by simp [MRes.no])
  rename_i hh
  simp only [Bool.and_eq_true] at hh
  obtain ⟨hA, hU⟩ := hh
  obtain ⟨n, rfl, rfl, h6, hm, eA, ha⟩ := adj_some rfl hA
  simp only [unimod, Bool.and_eq_true, beq_iff_eq] at hU
  obtain ⟨hk, hd⟩ := hU
  obtain ⟨n', e0, _, _, _, _, e1⟩ := det_some hk
  obtain rfl : n = n' := by omega
  rw [eA] at hV
  generalize hD : (detRes n n us).1 = D at *
  have hV' : V = ⟨n, n, scL (adjL n us) D, true⟩ ∧ isMat n n (scL (adjL n us) D) = true := by
    unfold scRes at hV
    split at hV
    · rename_i h3
      simp only [Bool.and_eq_true] at h3
      exact ⟨hV.symm, h3.2⟩
    · subst hV; exact absurd kV (by simp [MRes.no])
  obtain ⟨rfl, hv⟩ := hV'
  have hDD : D * D = 1 := by
    rcases Int.natAbs_eq D with e | e <;> rw [hd] at e <;> rw [e] <;> rfl
  have hla : (adjL n us).length = n * n := by rw [adjL, ofM_length]
  have hs : ∀ i j, i < n → j < n → toM n (scL (adjL n us) D) i j = Det.adj n (toM n us) i j * D := fun i j hi hj => by
    rw [toM, scL, hla, tab_getD _ (ix_lt hi hj)]
    show toM n (adjL n us) i j * D = _
    rw [ha i j hi hj]
  have u1 : mulL n n n us (scL (adjL n us) D) = idTo n n := by
    rw [mul_unit (d := 1) (fun i j hi hj => ?_), (unit_isMat (n := n) (by omega)).2]
    have : Det.mul n (toM n us) (toM n (scL (adjL n us) D)) i j = Det.mul n (toM n us) (Det.adj n (toM n us)) i j * D := by
      show Det.sum n _ = Det.sum n _ * D
      rw [← Det.sum_mulr]
      exact Det.sum_congr fun k hk => by rw [hs k j hk hj, Int.mul_assoc]
    rw [this, Det.mul_adj n _ i j hi hj, ← e1]
    split
    · exact hDD
    · simp
  have u2 : mulL n n n (scL (adjL n us) D) us = idTo n n := by
    rw [mul_unit (d := 1) (fun i j hi hj => ?_), (unit_isMat (n := n) (by omega)).2]
    have : Det.mul n (toM n (scL (adjL n us) D)) (toM n us) i j = D * Det.mul n (Det.adj n (toM n us)) (toM n us) i j := by
      show Det.sum n _ = D * Det.sum n _
      rw [← Det.sum_mul]
      exact Det.sum_congr fun k hk => by rw [hs i k hi hk, Int.mul_comm _ D, Int.mul_assoc]
    rw [this, Det.adj_mul n _ i j hi hj, ← e1]
    split
    · exact hDD
    · simp
  have hid := id_isMat (n := n) (by omega)
  refine ⟨n, rfl, rfl, h6, hd, ?_, ?_⟩
  · show mulRes n n us n n (scL (adjL n us) D) = _
    rw [mul_res hm hv (by rw [u1]; exact hid), u1]
  · show mulRes n n (scL (adjL n us) D) n n us = _
    rw [mul_res hv hm (by rw [u2]; exact hid), u2]
end Go.Proofs.Ytchlaebkigmfgaa
namespace Go.Proofs.Ytchlaebkigmfgaa
open Go.RowKit
set_option linter.unusedSimpArgs false
set_option linter.unusedVariables false
set_option maxHeartbeats 4000000 in
theorem specDoNil (R i j : Nat) (k t : Int) (A : Option Addr) (cap : Nat) (w : World) :
    Calls Try.prog 49 #[mv R 0 (.slice A 0 cap), opv k i j t] w fun e w' => e = .returned (.tuple #[]) ∧ Below w.heap.size w w' := by
  go_enter Try.func49, Try.ntmps49
  go_wp2_with fail
  refine wp_loop_rounds 1 ?_
  rw [rounds_succ]
  go_wp2
  go_returns
  exact ⟨rfl, (by repeat' (first | exact Below.refl _ _ | (refine Below.alloc ?_ ?_ _) | (refine Below.setCell ?_ ?_ _) | (refine Below.drew ?_) | (refine below_drewN ?_ _) | (refine Below.trans ?_ (Below.mono (by assumption) ?_)) | omega | (simp only [World.size_alloc, World.size_setCell, World.size_drew, size_drewN]; omega)))⟩
theorem specDoU (R C k i j : Nat) (t : Int) (A : Option Addr) (n cap lo : Nat) (xs : List Int) (w : World) (hO : Own w lo (.slice A n cap) xs) (hm : isMat R C xs = true) (ho : isRowOp k i j t R = true) :
    Calls Try.prog 49 #[mv R C (.slice A n cap), opv k i j t] w fun e w' => e = .returned (.tuple #[]) ∧ Own w' lo (.slice A n cap) (dL R C k i j t xs) ∧ w.grownBy w' (Value.slice A n cap).ownBlock := by
  obtain ⟨_, m2, _, m4, m5, mA, m7⟩ := isMat_t hm
  obtain ⟨h1, h2, h3, h4⟩ := isRowOp_t ho
  have hlx : xs.length = R * C := isMat_len hm
  have hs := Own.sl2 hO
  have hn : n = R * C := by rw [← hlx]; exact hs.1
  subst hn
  rcases Nat.eq_zero_or_pos C with h0 | h0
  · subst h0
    have hx : xs = [] := List.eq_nil_of_length_eq_zero (by rw [hlx]; rfl)
    subst hx
    have hd : dL R 0 k i j t [] = [] := List.eq_nil_of_length_eq_zero (by rw [dL_length]; rfl)
    rw [hd]
    refine (specDoNil R i j k t A cap w).mono ?_
    rintro e w' ⟨rfl, hb⟩
    exact ⟨rfl, hO.below hb, ⟨hb.os, hb.tape, hb.output, hb.size, fun q hq _ => hb.block q hq⟩⟩
  · have hpos : 0 < xs.length := by rw [hlx]; exact Nat.mul_pos (by omega) h0
    obtain ⟨g, rfl, _, _⟩ := own_some hO hpos
    exact specDoEx R C k i j t g cap lo (R * C) xs w hO hlx rfl (by omega) (by omega) ho
set_option maxHeartbeats 8000000 in
theorem specDoOp_in (R C k i j : Nat) (t : Int) (A : Option Addr) (cap : Nat) (xs : List Int) (w : World) (hA : Sl w A xs.length cap xs) (hm : isMat R C xs = true) (ho : isRowOp k i j t R = true) :
    Calls Try.prog 72 #[mv R C (.slice A xs.length cap), opv k i j t] w (RetM w (opRes R C xs k i j t)) := by
  have m7 := (isMat_t hm).2.2.2.2.2.2
  have m2 := (isMat_t hm).2.1
  have hin : opIn R C xs k i j t = true := by simp [opIn, hm, ho]
  have hnat : opRes (R : Int) C xs k i j t = if (opIn R C xs k i j t && opGo k C i j t xs) = true then ⟨R, C, opL R C k i j t xs, true⟩ else .no := rfl
  have hll : (dL R C k i j t xs).length = xs.length := by rw [dL_length, isMat_len hm]
  have hok := dL_ok (t := t) hm ho
  have hno := dL_no (t := t) hm ho
  have cr := fun A n cap lo w h => specDoU R C k i j t A n cap lo xs w h hm ho
  have cc := fun A cap w (h : Sl w A xs.length cap xs) => specCopy R C A cap xs w h (by omega)
  have HA := hide hA; clear hA
  have CC := hide cc
  clear cc
  rcases Bool.eq_false_or_eq_true (opGo k C i j t xs) with hg | hg
  · have HR : Hid (opRes R C xs k i j t = ⟨R, C, opL R C k i j t xs, true⟩) := by rw [Hid, hnat, if_pos (by simp [hin, hg])]
    obtain ⟨e1, e2⟩ := hok hg
    rw [← e1] at HR e2
    obtain ⟨L, hL⟩ : ∃ L, dL R C k i j t xs = L := ⟨_, rfl⟩
    rw [hL] at cr HR hll e2
    have cd := fun A cap w (h : SlI w A L) => specDone_yes R C A cap L w h (by omega) e2
    rw [hll] at cd
    have CR := hide cr
    have CD := hide cd
    have HLL := hide hll
    clear cr cd hL hin hnat hg hll hok hno e1 e2
    rw [HR.out]
    go_enter Try.func72, Try.ntmps72
    go_wp2_with (first
      | (go_at_call 69; refine (specIsMatrix R C A cap xs _ (SlI.below HA.out.2.2.2.2 (by repeat' (first | exact Below.refl _ _ | (refine Below.alloc ?_ ?_ _) | (refine Below.setCell ?_ ?_ _) | (refine Below.drew ?_) | (refine below_drewN ?_ _) | (refine Below.trans ?_ (Below.mono (by assumption) ?_)) | omega | (simp only [World.size_alloc, World.size_setCell, World.size_drew, size_drewN]; omega)))) (by omega)).mono ?_; rintro e w1 ⟨rfl, hb⟩; obtain ⟨hc, hf⟩ := bcell hb; have hz := hb.size; (try simp only [World.size_alloc, World.size_setCell, World.size_drew, size_drewN] at hz); (first | have hs := up3 hz | have hs := up2 hz | have hs := up1 hz | have hs := up0 hz); (try have q10 := hs _ q9); (try have q9 := hs _ q8); (try have q8 := hs _ q7); (try have q7 := hs _ q6); (try have q6 := hs _ q5); (try have q5 := hs _ q4); (try have q4 := hs _ q3); (try have q3 := hs _ q2); (try have q2 := hs _ q1); (try have p7 := hs _ p6); (try have p6 := hs _ p5); (try have p5 := hs _ p4); (try have p4 := hs _ p3); (try have p3 := hs _ p2); (try have p2 := hs _ p1); (try have q1 := new1 hz); (try have p1 := new2 hz); (try have r1 := new3 hz))
      | (go_at_call 86; refine (specIsRowOp _ _ _ _ _ _ (by omega) (by omega)).mono ?_; rintro e w2 ⟨rfl, hb⟩; obtain ⟨hc, hf⟩ := bcell hb; have hz := hb.size; (try simp only [World.size_alloc, World.size_setCell, World.size_drew, size_drewN] at hz); (first | have hs := up3 hz | have hs := up2 hz | have hs := up1 hz | have hs := up0 hz); (try have q10 := hs _ q9); (try have q9 := hs _ q8); (try have q8 := hs _ q7); (try have q7 := hs _ q6); (try have q6 := hs _ q5); (try have q5 := hs _ q4); (try have q4 := hs _ q3); (try have q3 := hs _ q2); (try have q2 := hs _ q1); (try have p7 := hs _ p6); (try have p6 := hs _ p5); (try have p5 := hs _ p4); (try have p4 := hs _ p3); (try have p3 := hs _ p2); (try have p2 := hs _ p1); (try have q1 := new1 hz); (try have p1 := new2 hz); (try have r1 := new3 hz))
      | (go_at_call 48; refine (CC.out A cap _ (HA.out.below (by repeat' (first | exact Below.refl _ _ | (refine Below.alloc ?_ ?_ _) | (refine Below.setCell ?_ ?_ _) | (refine Below.drew ?_) | (refine below_drewN ?_ _) | (refine Below.trans ?_ (Below.mono (by assumption) ?_)) | omega | (simp only [World.size_alloc, World.size_setCell, World.size_drew, size_drewN]; omega))))).mono ?_; rintro e w3 ⟨s, rfl, ho, hb⟩; obtain ⟨hc, hf⟩ := bcell hb; have hz := hb.size; (try simp only [World.size_alloc, World.size_setCell, World.size_drew, size_drewN] at hz); (first | have hs := up3 hz | have hs := up2 hz | have hs := up1 hz | have hs := up0 hz); (try have q10 := hs _ q9); (try have q9 := hs _ q8); (try have q8 := hs _ q7); (try have q7 := hs _ q6); (try have q6 := hs _ q5); (try have q5 := hs _ q4); (try have q4 := hs _ q3); (try have q3 := hs _ q2); (try have q2 := hs _ q1); (try have p7 := hs _ p6); (try have p6 := hs _ p5); (try have p5 := hs _ p4); (try have p4 := hs _ p3); (try have p3 := hs _ p2); (try have p2 := hs _ p1); (try have q1 := new1 hz); (try have p1 := new2 hz); (try have r1 := new3 hz); obtain ⟨A2, c2, rfl, _⟩ := Own.sl ho; have HO := hide ho; clear ho))
    have hl := Own.lt HO.out
    refine (CR.out A2 xs.length c2 w2.heap.size _ (Own.alloc HO.out _)).mono ?_
    rintro e w4 ⟨rfl, ho4, hg⟩
    have HO4 := hide ho4
    clear ho4
    have b3 : Box3 w3 (w.heap.size + 1 + 1) (.int .i64 0) (.int .i64 0) (.slice none 0 0) := (by repeat' (first | with_reducible assumption | (with_reducible refine Box3.set ?_ ?_ _) | (with_reducible refine Box3.drew ?_) | (with_reducible refine Box3.drewN ?_ _) | (with_reducible exact Box3.new _ _ _ (by first | rfl | (simp only [World.size_alloc]; done) | (simp only [World.size_alloc]; omega))) | (with_reducible refine Box3.alloc ?_ _) | (with_reducible refine Box3.call ?_ (by assumption)) | (with_reducible refine Box3.grown ?_ (by assumption) (by simp; omega)) | omega | (dsimp only; omega) | (simp only [World.size_alloc, World.size_setCell, World.size_drew, size_drewN]; omega)))
    have k3 := hide ((b3.alloc (.cells #[.int .i64 R, .int .i64 C, .slice A2 xs.length c2] 28)).grown hg (fun e => by have := hl _ e.symm; omega))
    have b4 : Box3 (w3.alloc (.cells #[.int .i64 R, .int .i64 C, .slice A2 xs.length c2] 28)) w3.heap.size (.int .i64 R) (.int .i64 C) (.slice A2 xs.length c2) := Box3.new _ _ _ rfl
    have k4 := hide (b4.grown hg (fun e => by have := hl _ e.symm; omega))
    have hB3 : Below w.heap.size w w3 := (by repeat' (first | exact Below.refl _ _ | (refine Below.alloc ?_ ?_ _) | (refine Below.setCell ?_ ?_ _) | (refine Below.drew ?_) | (refine below_drewN ?_ _) | (refine Below.trans ?_ (Below.mono (by assumption) ?_)) | omega | (simp only [World.size_alloc, World.size_setCell, World.size_drew, size_drewN]; omega)))
    have hB4 := hide (Below.grown (hB3.alloc hB3.size _) hg (by have := hB3.size; first | omega | (simp; done) | (simp; omega)) (fun q hq => by have := (hl q hq).1; omega))
    have hz3 : w.heap.size + 1 + 1 < w2.heap.size := by omega
    clear hc hf hs hz hg b3 b4 hB3
    obtain ⟨⟨y0, y1, y2⟩, _⟩ := k4.out
    have ho4' : Own w4 w2.heap.size (.slice A2 L.length c2) L := by rw [HLL.out]; exact HO4.out
    go_wp2_with fail
    refine (CD.out A2 c2 _ (Own.reads ho4').2).mono ?_; rintro e w5 ⟨rfl, hb⟩
    have k5 := hide (k3.out.call hb)
    have hB5 := hide (kb_call hB4.out (Nat.le_refl _) hb)
    have HO5 := hide (HO4.out.below hb)
    have hl5 := own_nm HO5.out
    clear ho4' y0 y1 y2 hb HO4 k4
    obtain ⟨⟨x0, x1, x2⟩, f0, f1, f2⟩ := k5.out
    have p5 := k5.out.lt
    obtain ⟨⟨m0, m1, m2⟩, _⟩ := (Box3.stored k5.out (.int .i64 R) (.int .i64 C) (.slice A2 xs.length c2)).alloc (.cells #[.int .i64 R, .int .i64 C, .slice A2 xs.length c2] 28)
    go_wp2
    exact bodyPost_ret (v := .tuple #[mv (R) (C) (.slice A2 xs.length c2), .bool true]) (by first | (simp [results, Try.results72, go_sem, m0, m1, m2]; done) | (simp [results, Try.results72, go_sem]; done)) rfl ⟨_, rfl, Own.mono (lo := w2.heap.size) (Own.alloc (Own.set (Own.set (Own.set HO5.out (fun e => by have := hl5 _ e; dsimp only at this; omega) _) (fun e => by have := hl5 _ e; dsimp only at this; omega) _) (fun e => by have := hl5 _ e; dsimp only at this; omega) _) _) (by omega), (((hB5.out.setCell (by dsimp only; omega) _).setCell (by dsimp only; omega) _).setCell (by dsimp only; omega) _).alloc (by have := hB5.out.size; simp; omega) _⟩
  · have HR : Hid (opRes R C xs k i j t = .no) := by rw [Hid, hnat, if_neg (by simp [hg])]
    have e2 := hno hg
    obtain ⟨L, hL⟩ : ∃ L, dL R C k i j t xs = L := ⟨_, rfl⟩
    rw [hL] at cr hll e2
    have cd := fun A cap w (h : SlI w A L) => specDone_no R C A cap L w h (by omega) e2
    rw [hll] at cd
    have CR := hide cr
    have CD := hide cd
    have HLL := hide hll
    clear cr cd hL hin hnat hg hll hok hno e2
    rw [HR.out]
    go_enter Try.func72, Try.ntmps72
    go_wp2_with (first
      | (go_at_call 69; refine (specIsMatrix R C A cap xs _ (SlI.below HA.out.2.2.2.2 (by repeat' (first | exact Below.refl _ _ | (refine Below.alloc ?_ ?_ _) | (refine Below.setCell ?_ ?_ _) | (refine Below.drew ?_) | (refine below_drewN ?_ _) | (refine Below.trans ?_ (Below.mono (by assumption) ?_)) | omega | (simp only [World.size_alloc, World.size_setCell, World.size_drew, size_drewN]; omega)))) (by omega)).mono ?_; rintro e w1 ⟨rfl, hb⟩; obtain ⟨hc, hf⟩ := bcell hb; have hz := hb.size; (try simp only [World.size_alloc, World.size_setCell, World.size_drew, size_drewN] at hz); (first | have hs := up3 hz | have hs := up2 hz | have hs := up1 hz | have hs := up0 hz); (try have q10 := hs _ q9); (try have q9 := hs _ q8); (try have q8 := hs _ q7); (try have q7 := hs _ q6); (try have q6 := hs _ q5); (try have q5 := hs _ q4); (try have q4 := hs _ q3); (try have q3 := hs _ q2); (try have q2 := hs _ q1); (try have p7 := hs _ p6); (try have p6 := hs _ p5); (try have p5 := hs _ p4); (try have p4 := hs _ p3); (try have p3 := hs _ p2); (try have p2 := hs _ p1); (try have q1 := new1 hz); (try have p1 := new2 hz); (try have r1 := new3 hz))
      | (go_at_call 86; refine (specIsRowOp _ _ _ _ _ _ (by omega) (by omega)).mono ?_; rintro e w2 ⟨rfl, hb⟩; obtain ⟨hc, hf⟩ := bcell hb; have hz := hb.size; (try simp only [World.size_alloc, World.size_setCell, World.size_drew, size_drewN] at hz); (first | have hs := up3 hz | have hs := up2 hz | have hs := up1 hz | have hs := up0 hz); (try have q10 := hs _ q9); (try have q9 := hs _ q8); (try have q8 := hs _ q7); (try have q7 := hs _ q6); (try have q6 := hs _ q5); (try have q5 := hs _ q4); (try have q4 := hs _ q3); (try have q3 := hs _ q2); (try have q2 := hs _ q1); (try have p7 := hs _ p6); (try have p6 := hs _ p5); (try have p5 := hs _ p4); (try have p4 := hs _ p3); (try have p3 := hs _ p2); (try have p2 := hs _ p1); (try have q1 := new1 hz); (try have p1 := new2 hz); (try have r1 := new3 hz))
      | (go_at_call 48; refine (CC.out A cap _ (HA.out.below (by repeat' (first | exact Below.refl _ _ | (refine Below.alloc ?_ ?_ _) | (refine Below.setCell ?_ ?_ _) | (refine Below.drew ?_) | (refine below_drewN ?_ _) | (refine Below.trans ?_ (Below.mono (by assumption) ?_)) | omega | (simp only [World.size_alloc, World.size_setCell, World.size_drew, size_drewN]; omega))))).mono ?_; rintro e w3 ⟨s, rfl, ho, hb⟩; obtain ⟨hc, hf⟩ := bcell hb; have hz := hb.size; (try simp only [World.size_alloc, World.size_setCell, World.size_drew, size_drewN] at hz); (first | have hs := up3 hz | have hs := up2 hz | have hs := up1 hz | have hs := up0 hz); (try have q10 := hs _ q9); (try have q9 := hs _ q8); (try have q8 := hs _ q7); (try have q7 := hs _ q6); (try have q6 := hs _ q5); (try have q5 := hs _ q4); (try have q4 := hs _ q3); (try have q3 := hs _ q2); (try have q2 := hs _ q1); (try have p7 := hs _ p6); (try have p6 := hs _ p5); (try have p5 := hs _ p4); (try have p4 := hs _ p3); (try have p3 := hs _ p2); (try have p2 := hs _ p1); (try have q1 := new1 hz); (try have p1 := new2 hz); (try have r1 := new3 hz); obtain ⟨A2, c2, rfl, _⟩ := Own.sl ho; have HO := hide ho; clear ho))
    have hl := Own.lt HO.out
    refine (CR.out A2 xs.length c2 w2.heap.size _ (Own.alloc HO.out _)).mono ?_
    rintro e w4 ⟨rfl, ho4, hg⟩
    have HO4 := hide ho4
    clear ho4
    have b3 : Box3 w3 (w.heap.size + 1 + 1) (.int .i64 0) (.int .i64 0) (.slice none 0 0) := (by repeat' (first | with_reducible assumption | (with_reducible refine Box3.set ?_ ?_ _) | (with_reducible refine Box3.drew ?_) | (with_reducible refine Box3.drewN ?_ _) | (with_reducible exact Box3.new _ _ _ (by first | rfl | (simp only [World.size_alloc]; done) | (simp only [World.size_alloc]; omega))) | (with_reducible refine Box3.alloc ?_ _) | (with_reducible refine Box3.call ?_ (by assumption)) | (with_reducible refine Box3.grown ?_ (by assumption) (by simp; omega)) | omega | (dsimp only; omega) | (simp only [World.size_alloc, World.size_setCell, World.size_drew, size_drewN]; omega)))
    have k3 := hide ((b3.alloc (.cells #[.int .i64 R, .int .i64 C, .slice A2 xs.length c2] 28)).grown hg (fun e => by have := hl _ e.symm; omega))
    have b4 : Box3 (w3.alloc (.cells #[.int .i64 R, .int .i64 C, .slice A2 xs.length c2] 28)) w3.heap.size (.int .i64 R) (.int .i64 C) (.slice A2 xs.length c2) := Box3.new _ _ _ rfl
    have k4 := hide (b4.grown hg (fun e => by have := hl _ e.symm; omega))
    have hB3 : Below w.heap.size w w3 := (by repeat' (first | exact Below.refl _ _ | (refine Below.alloc ?_ ?_ _) | (refine Below.setCell ?_ ?_ _) | (refine Below.drew ?_) | (refine below_drewN ?_ _) | (refine Below.trans ?_ (Below.mono (by assumption) ?_)) | omega | (simp only [World.size_alloc, World.size_setCell, World.size_drew, size_drewN]; omega)))
    have hB4 := hide (Below.grown (hB3.alloc hB3.size _) hg (by have := hB3.size; first | omega | (simp; done) | (simp; omega)) (fun q hq => by have := (hl q hq).1; omega))
    clear hc hf hs hz hg b3 b4 hB3
    obtain ⟨⟨y0, y1, y2⟩, _⟩ := k4.out
    have ho4' : Own w4 w2.heap.size (.slice A2 L.length c2) L := by rw [HLL.out]; exact HO4.out
    go_wp2_with fail
    refine (CD.out A2 c2 _ (Own.reads ho4').2).mono ?_; rintro e w5 ⟨rfl, hb⟩
    have k5 := hide (k3.out.call hb)
    have hB5 := hide (kb_call hB4.out (Nat.le_refl _) hb)
    clear ho4' y0 y1 y2 hb HO4 k4
    obtain ⟨⟨x0, x1, x2⟩, f0, f1, f2⟩ := k5.out
    have p5 := k5.out.lt
    obtain ⟨⟨m0, m1, m2⟩, _⟩ := (Box3.stored k5.out (.int .i64 0) (.int .i64 0) (.slice none 0 0)).alloc (.cells #[.int .i64 0, .int .i64 0, .slice none 0 0] 28)
    go_wp2
    exact bodyPost_ret (v := .tuple #[mv (0) (0) (.slice none 0 0), .bool false]) (by first | (simp [results, Try.results72, go_sem, m0, m1, m2]; done) | (simp [results, Try.results72, go_sem]; done)) rfl ⟨_, rfl, Own.nil _ _, (((hB5.out.setCell (by dsimp only; omega) _).setCell (by dsimp only; omega) _).setCell (by dsimp only; omega) _).alloc (by have := hB5.out.size; simp; omega) _⟩
set_option maxHeartbeats 2000000 in
theorem specDoOp_out (r c k i j t : Int) (hr0 : -9223372036854775808 ≤ r) (hr1 : r ≤ 9223372036854775807) (A : Option Addr) (cap : Nat) (xs : List Int) (w : World) (hA : Sl w A xs.length cap xs) (hn : xs.length ≤ 1048576) (h : opIn r c xs k i j t = false) :
    Calls Try.prog 72 #[mv r c (.slice A xs.length cap), opv k i j t] w (RetMat w 0 0 [] false) := by
  have HA := hide hA; clear hA
  rcases Bool.eq_false_or_eq_true (isMat r c xs) with hm | hm
  · have hr : isRowOp k i j t r = false := by simpa [opIn, hm] using h
    clear h
    go_enter Try.func72, Try.ntmps72
    go_wp2_with (first
      | (go_at_call 69; refine (specIsMatrix r c A cap xs _ (SlI.below HA.out.2.2.2.2 (by repeat' (first | exact Below.refl _ _ | (refine Below.alloc ?_ ?_ _) | (refine Below.setCell ?_ ?_ _) | (refine Below.drew ?_) | (refine below_drewN ?_ _) | (refine Below.trans ?_ (Below.mono (by assumption) ?_)) | omega | (simp only [World.size_alloc, World.size_setCell, World.size_drew, size_drewN]; omega)))) hn).mono ?_; rintro e w1 ⟨rfl, hb⟩; obtain ⟨hc, hf⟩ := bcell hb; have hz := hb.size; (try simp only [World.size_alloc, World.size_setCell, World.size_drew, size_drewN] at hz); (first | have hs := up3 hz | have hs := up2 hz | have hs := up1 hz | have hs := up0 hz); (try have q10 := hs _ q9); (try have q9 := hs _ q8); (try have q8 := hs _ q7); (try have q7 := hs _ q6); (try have q6 := hs _ q5); (try have q5 := hs _ q4); (try have q4 := hs _ q3); (try have q3 := hs _ q2); (try have q2 := hs _ q1); (try have p7 := hs _ p6); (try have p6 := hs _ p5); (try have p5 := hs _ p4); (try have p4 := hs _ p3); (try have p3 := hs _ p2); (try have p2 := hs _ p1); (try have q1 := new1 hz); (try have p1 := new2 hz); (try have r1 := new3 hz))
      | (go_at_call 86; refine (specIsRowOp _ _ _ _ _ _ (by omega) (by omega)).mono ?_; rintro e w2 ⟨rfl, hb⟩; obtain ⟨hc, hf⟩ := bcell hb; have hz := hb.size; (try simp only [World.size_alloc, World.size_setCell, World.size_drew, size_drewN] at hz); (first | have hs := up3 hz | have hs := up2 hz | have hs := up1 hz | have hs := up0 hz); (try have q10 := hs _ q9); (try have q9 := hs _ q8); (try have q8 := hs _ q7); (try have q7 := hs _ q6); (try have q6 := hs _ q5); (try have q5 := hs _ q4); (try have q4 := hs _ q3); (try have q3 := hs _ q2); (try have q2 := hs _ q1); (try have p7 := hs _ p6); (try have p6 := hs _ p5); (try have p5 := hs _ p4); (try have p4 := hs _ p3); (try have p3 := hs _ p2); (try have p2 := hs _ p1); (try have q1 := new1 hz); (try have p1 := new2 hz); (try have r1 := new3 hz); obtain ⟨⟨x0, x1, x2⟩, f0, f1, f2⟩ := show Box3 w2 (w.heap.size + 1 + 1) (.int .i64 0) (.int .i64 0) (.slice none 0 0) from (by repeat' (first | with_reducible assumption | (with_reducible refine Box3.set ?_ ?_ _) | (with_reducible refine Box3.drew ?_) | (with_reducible refine Box3.drewN ?_ _) | (with_reducible exact Box3.new _ _ _ (by first | rfl | (simp only [World.size_alloc]; done) | (simp only [World.size_alloc]; omega))) | (with_reducible refine Box3.alloc ?_ _) | (with_reducible refine Box3.call ?_ (by assumption)) | (with_reducible refine Box3.grown ?_ (by assumption) (by simp; omega)) | omega | (dsimp only; omega) | (simp only [World.size_alloc, World.size_setCell, World.size_drew, size_drewN]; omega)))))
    obtain ⟨⟨m0, m1, m2⟩, _⟩ := Box3.stored (show Box3 w2 (w.heap.size + 1 + 1) (.int .i64 0) (.int .i64 0) (.slice none 0 0) from (by repeat' (first | with_reducible assumption | (with_reducible refine Box3.set ?_ ?_ _) | (with_reducible refine Box3.drew ?_) | (with_reducible refine Box3.drewN ?_ _) | (with_reducible exact Box3.new _ _ _ (by first | rfl | (simp only [World.size_alloc]; done) | (simp only [World.size_alloc]; omega))) | (with_reducible refine Box3.alloc ?_ _) | (with_reducible refine Box3.call ?_ (by assumption)) | (with_reducible refine Box3.grown ?_ (by assumption) (by simp; omega)) | omega | (dsimp only; omega) | (simp only [World.size_alloc, World.size_setCell, World.size_drew, size_drewN]; omega)))) (.int .i64 0) (.int .i64 0) (.slice none 0 0)
    exact bodyPost_ret (v := .tuple #[mv (0) (0) (.slice none 0 0), .bool false]) (by first | (simp [results, Try.results72, go_sem, m0, m1, m2]; done) | (simp [results, Try.results72, go_sem]; done)) rfl ⟨_, rfl, Own.nil _ _, (by repeat' (first | exact Below.refl _ _ | (refine Below.alloc ?_ ?_ _) | (refine Below.setCell ?_ ?_ _) | (refine Below.drew ?_) | (refine below_drewN ?_ _) | (refine Below.trans ?_ (Below.mono (by assumption) ?_)) | omega | (simp only [World.size_alloc, World.size_setCell, World.size_drew, size_drewN]; omega)))⟩
  · clear h
    go_enter Try.func72, Try.ntmps72
    go_wp2_with ((go_at_call 69; refine (specIsMatrix r c A cap xs _ (SlI.below HA.out.2.2.2.2 (by repeat' (first | exact Below.refl _ _ | (refine Below.alloc ?_ ?_ _) | (refine Below.setCell ?_ ?_ _) | (refine Below.drew ?_) | (refine below_drewN ?_ _) | (refine Below.trans ?_ (Below.mono (by assumption) ?_)) | omega | (simp only [World.size_alloc, World.size_setCell, World.size_drew, size_drewN]; omega)))) hn).mono ?_; rintro e w1 ⟨rfl, hb⟩; obtain ⟨hc, hf⟩ := bcell hb; have hz := hb.size; (try simp only [World.size_alloc, World.size_setCell, World.size_drew, size_drewN] at hz); (first | have hs := up3 hz | have hs := up2 hz | have hs := up1 hz | have hs := up0 hz); (try have q10 := hs _ q9); (try have q9 := hs _ q8); (try have q8 := hs _ q7); (try have q7 := hs _ q6); (try have q6 := hs _ q5); (try have q5 := hs _ q4); (try have q4 := hs _ q3); (try have q3 := hs _ q2); (try have q2 := hs _ q1); (try have p7 := hs _ p6); (try have p6 := hs _ p5); (try have p5 := hs _ p4); (try have p4 := hs _ p3); (try have p3 := hs _ p2); (try have p2 := hs _ p1); (try have q1 := new1 hz); (try have p1 := new2 hz); (try have r1 := new3 hz); obtain ⟨⟨x0, x1, x2⟩, f0, f1, f2⟩ := show Box3 w1 (w.heap.size + 1 + 1) (.int .i64 0) (.int .i64 0) (.slice none 0 0) from (by repeat' (first | with_reducible assumption | (with_reducible refine Box3.set ?_ ?_ _) | (with_reducible refine Box3.drew ?_) | (with_reducible refine Box3.drewN ?_ _) | (with_reducible exact Box3.new _ _ _ (by first | rfl | (simp only [World.size_alloc]; done) | (simp only [World.size_alloc]; omega))) | (with_reducible refine Box3.alloc ?_ _) | (with_reducible refine Box3.call ?_ (by assumption)) | (with_reducible refine Box3.grown ?_ (by assumption) (by simp; omega)) | omega | (dsimp only; omega) | (simp only [World.size_alloc, World.size_setCell, World.size_drew, size_drewN]; omega)))))
    obtain ⟨⟨m0, m1, m2⟩, _⟩ := Box3.stored (show Box3 w1 (w.heap.size + 1 + 1) (.int .i64 0) (.int .i64 0) (.slice none 0 0) from (by repeat' (first | with_reducible assumption | (with_reducible refine Box3.set ?_ ?_ _) | (with_reducible refine Box3.drew ?_) | (with_reducible refine Box3.drewN ?_ _) | (with_reducible exact Box3.new _ _ _ (by first | rfl | (simp only [World.size_alloc]; done) | (simp only [World.size_alloc]; omega))) | (with_reducible refine Box3.alloc ?_ _) | (with_reducible refine Box3.call ?_ (by assumption)) | (with_reducible refine Box3.grown ?_ (by assumption) (by simp; omega)) | omega | (dsimp only; omega) | (simp only [World.size_alloc, World.size_setCell, World.size_drew, size_drewN]; omega)))) (.int .i64 0) (.int .i64 0) (.slice none 0 0)
    exact bodyPost_ret (v := .tuple #[mv (0) (0) (.slice none 0 0), .bool false]) (by first | (simp [results, Try.results72, go_sem, m0, m1, m2]; done) | (simp [results, Try.results72, go_sem]; done)) rfl ⟨_, rfl, Own.nil _ _, (by repeat' (first | exact Below.refl _ _ | (refine Below.alloc ?_ ?_ _) | (refine Below.setCell ?_ ?_ _) | (refine Below.drew ?_) | (refine below_drewN ?_ _) | (refine Below.trans ?_ (Below.mono (by assumption) ?_)) | omega | (simp only [World.size_alloc, World.size_setCell, World.size_drew, size_drewN]; omega)))⟩
theorem specDoOp (r c k i j t : Int) (hr0 : -9223372036854775808 ≤ r) (hr1 : r ≤ 9223372036854775807) (A : Option Addr) (cap : Nat) (xs : List Int) (w : World) (hA : Sl w A xs.length cap xs) (hn : xs.length ≤ 1048576) :
    Calls Try.prog 72 #[mv r c (.slice A xs.length cap), opv k i j t] w (RetM w (opRes r c xs k i j t)) := by
  rcases Bool.eq_false_or_eq_true (opIn r c xs k i j t) with h | h
  · have h0 := h
    simp only [opIn, Bool.and_eq_true] at h0
    obtain ⟨h1, h2⟩ := h0
    obtain ⟨g1, g2, g3, g4⟩ := isRowOp_pos h2
    obtain ⟨R, rfl⟩ := Int.eq_ofNat_of_zero_le (isMat_t h1).1
    obtain ⟨C, rfl⟩ := Int.eq_ofNat_of_zero_le (isMat_t h1).2.2.1
    obtain ⟨k, rfl⟩ := Int.eq_ofNat_of_zero_le g1
    obtain ⟨i, rfl⟩ := Int.eq_ofNat_of_zero_le g2
    obtain ⟨j, rfl⟩ := Int.eq_ofNat_of_zero_le g3
    exact specDoOp_in R C k i j t A cap xs w hA h1 h2
  · rw [show opRes r c xs k i j t = .no from by rw [opRes, if_neg (by simp [h])]]
    exact specDoOp_out r c k i j t hr0 hr1 A cap xs w hA hn h
end Go.Proofs.Ytchlaebkigmfgaa
namespace Go.Proofs.Ytchlaebkigmfgaa
open Go.RowKit
set_option linter.unusedSimpArgs false
set_option linter.unusedVariables false
set_option maxHeartbeats 2000000 in
theorem lawUnit (n : Nat) (hn : n ≤ 24) (w : World) : Calls Try.prog 36 #[.int .i64 (n : Int)] w (RetM3 w n n (idTo n n)) := by
  have si := specIdentity_yes n hn
  generalize idTo n n = L0 at *
  have SI := hide si
  clear si
  have b0 := hide (Box3.new (x := .int .i64 0) (y := .int .i64 0) (z := .slice none 0 0) w w.heap.size 28 rfl)
  have HBx : Hid (Below w.heap.size w (w.alloc (.cells #[.int .i64 0, .int .i64 0, .slice none 0 0] 28))) := (Below.refl _ _).alloc (Nat.le_refl _) _
  go_enter Try.func36, Try.ntmps36
  go_wp2_with fail
  refine (SI.out _).mono ?_; rintro e w1 ⟨s, rfl, ho, hb⟩
  obtain ⟨A, cap, rfl, _⟩ := Own.sl ho
  have k := hide (b0.out.call hb)
  have HB := hide (kb_call HBx.out (Nat.le_refl _) hb)
  have HO := hide ho
  have hl := own_nm ho
  have z := hb.size
  simp only [World.size_alloc] at z hl
  clear ho hb b0 HBx
  obtain ⟨⟨x0, x1, x2⟩, f0, f1, f2⟩ := k.out
  have p := k.out.lt
  obtain ⟨⟨m0, m1, m2⟩, _⟩ := (Box3.stored k.out (.int .i64 n) (.int .i64 n) (.slice A L0.length cap)).alloc (.cells #[.int .i64 n, .int .i64 n, .slice A L0.length cap] 28)
  go_wp2
  exact bodyPost_ret (v := mv (n) (n) (.slice A L0.length cap)) (by first | (simp [results, Try.results36, go_sem, m0, m1, m2]; done) | (simp [results, Try.results36, go_sem]; done)) rfl ⟨_, rfl, Own.mono (lo := (w.alloc (.cells #[.int .i64 0, .int .i64 0, .slice none 0 0] 28)).heap.size) (Own.alloc (Own.set (Own.set (Own.set HO.out (fun e => by have := hl _ e; (try dsimp only at this); omega) _) (fun e => by have := hl _ e; (try dsimp only at this); omega) _) (fun e => by have := hl _ e; (try dsimp only at this); omega) _) _) (by simp), (((HB.out.setCell (by dsimp only; omega) _).setCell (by dsimp only; omega) _).setCell (by dsimp only; omega) _).alloc (by have := HB.out.size; simp; omega) _⟩
/-- A matrix that mix draws. -/
def RetMix (n : Nat) (w : World) (e : Ending) (w' : World) : Prop := ∃ (r c : Int) (zs : List Int) (s : Value), e = .returned (mv r c s) ∧ MixP n r c zs ∧ Own w' w.heap.size s zs ∧ Below w.heap.size w w'
set_option maxRecDepth 100000 in
set_option maxHeartbeats 8000000 in
theorem lawMix (cA : Option Addr) (cn ccap n : Nat) (w : World) (hs : SlB w w.heap.size cA cn) (hcn : cn ≤ 1048576) (hn : n ≤ 6) :
    Calls Try.prog 33 #[.slice cA cn ccap, .int .i64 (n : Int)] w (RetMix n w) := by
  have HS := hide hs; clear hs
  have hms := mix_start (n := n) (by omega)
  have hsz0 : (idTo n n).length ≤ 576 := by have := idTo_length n n; have := nn_le (n := n) (by omega); omega
  have un := lawUnit n (by omega)
  generalize idTo n n = L0 at *
  have UN := hide un
  have HMS := hide hms
  clear un hms
  have b0 := hide (Box3.new (x := .int .i64 0) (y := .int .i64 0) (z := .slice none 0 0) w w.heap.size 28 rfl)
  have HBx : Hid (Below w.heap.size w (w.alloc (.cells #[.int .i64 0, .int .i64 0, .slice none 0 0] 28))) := (Below.refl _ _).alloc (Nat.le_refl _) _
  go_enter Try.func33, Try.ntmps33
  go_wp2_with fail
  refine (UN.out _).mono ?_; rintro e w1 ⟨s, rfl, ho, hb⟩
  obtain ⟨A, cap, rfl, _⟩ := Own.sl ho
  have k1 := hide ((b0.out.call hb).alloc (.cells #[.int .i64 n, .int .i64 n, .slice A L0.length cap] 28))
  have kb1 := hide (Box3.new (x := .int .i64 n) (y := .int .i64 n) (z := .slice A L0.length cap) w1 w1.heap.size 28 rfl)
  have HB1 := hide ((kb_call HBx.out (Nat.le_refl _) hb).alloc (kb_call HBx.out (Nat.le_refl _) hb).size (.cells #[.int .i64 n, .int .i64 n, .slice A L0.length cap] 28))
  have z := hb.size
  simp only [World.size_alloc] at z ho
  have HO1 := hide (ho.alloc (.cells #[.int .i64 n, .int .i64 n, .slice A L0.length cap] 28))
  have hne1 : Hid (∀ q, (Value.slice A L0.length cap).ownBlock = some q → q ≠ w1.heap.size) := fun q e => by have := Own.lt ho q e; omega
  clear ho hb b0 HBx
  go_wp2_with fail
  go_loopw [6] (fun iv wr => ∃ (q : Nat) (r c : Int) (zs : List Int) (A : Option Addr) (cap : Nat), iv = .int .i64 q ∧ q ≤ 6 ∧ MixP n r c zs ∧ Box3 wr w.heap.size (.int .i64 0) (.int .i64 0) (.slice none 0 0) ∧
      Box3 wr w1.heap.size (.int .i64 r) (.int .i64 c) (.slice A zs.length cap) ∧ Own wr (w.heap.size + 1) (.slice A zs.length cap) zs ∧ (∀ q, (Value.slice A zs.length cap).ownBlock = some q → q ≠ w1.heap.size) ∧ Below w.heap.size w wr) (fun iv _ => 6 - (intOf iv).toNat)
  case atStart => exact ⟨0, n, n, L0, A, cap, rfl, by omega, HMS.out, k1.out, kb1.out, HO1.out, hne1.out, HB1.out⟩
  case round =>
    clear HMS k1 kb1 HO1 hne1 HB1 UN hsz0
    obtain ⟨q, r, c, zs, A, cap, rfl, hq6, hmx, hb0, hbm, ho, hne, hB⟩ := hrel
    obtain ⟨wo, rfl⟩ : ∃ wo : World, wo = wr := ⟨_, rfl⟩
    have HMX := hide hmx
    have B0 := hide hb0
    have BM := hide hbm
    have HO := hide ho
    have HNE := hide hne
    have HBw := hide hB
    have hzs := mixP_len hmx
    have zr := hbm.lt
    clear hmx hb0 hbm ho hne hB
    by_cases hgo : q < cn ∧ q < 6 ∧ 1 < n
    · obtain ⟨hg1, hg2, hg3⟩ := hgo
      obtain ⟨g, off, rfl, hgB, hcc⟩ := (HS.out.below HBw.out) (by omega)
      obtain ⟨y, hy, y0, y1⟩ := hcc q hg1
      clear hcc
      obtain ⟨Y, rfl⟩ := Int.eq_ofNat_of_zero_le y0
      have d1 : decide ((q : Int) < (cn : Int)) = true := decide_eq_true (by omega)
      have d2 : decide ((q : Int) < 6) = true := decide_eq_true (by omega)
      have d3 : decide ((1 : Int) < (n : Int)) = true := decide_eq_true (by omega)
      -- the numbers of the row operation
      obtain ⟨K, hK⟩ : ∃ K : Nat, Y % n = K := ⟨_, rfl⟩
      obtain ⟨Q, hQ⟩ : ∃ Q : Nat, Y / 8 = Q := ⟨_, rfl⟩
      obtain ⟨Z, hZ⟩ : ∃ Z : Nat, Q % (n - 1) = Z := ⟨_, rfl⟩
      obtain ⟨J, hJ⟩ : ∃ J : Nat, (K + 1 + Z) % n = J := ⟨_, rfl⟩
      obtain ⟨V, hV⟩ : ∃ V : Nat, Y / 32 = V := ⟨_, rfl⟩
      obtain ⟨T, hT⟩ : ∃ T : Nat, V % 3 = T := ⟨_, rfl⟩
      have b1 : K < n := by rw [← hK]; exact Nat.mod_lt _ (by omega)
      have b2 : Z < n - 1 := by rw [← hZ]; exact Nat.mod_lt _ (by omega)
      have b3 : J < n := by rw [← hJ]; exact Nat.mod_lt _ (by omega)
      have b4 : K ≠ J := by
        intro e
        rw [← e] at hJ
        by_cases h : K + 1 + Z < n
        · rw [Nat.mod_eq_of_lt h] at hJ; omega
        · rw [Nat.mod_eq_sub_mod (by omega), Nat.mod_eq_of_lt (by omega)] at hJ; omega
      have hY : Y ≤ 255 := by omega
      have b5 : Q ≤ 31 := by omega
      have b6 : V ≤ 7 := by omega
      have b7 : T ≤ 2 := by omega
      have e0 : (Y : Int) % (n : Int) = (K : Int) := by rw [← hK]; push_cast; rfl
      have e1 : (Y : Int).tdiv 8 = (Q : Int) := by rw [Int.tdiv_eq_ediv_of_nonneg (by omega)]; omega
      have e2 : (Y : Int).tdiv 32 = (V : Int) := by rw [Int.tdiv_eq_ediv_of_nonneg (by omega)]; omega
      have e3 : (Q : Int).tmod ((n : Int) - 1) = (Z : Int) := by rw [Int.tmod_eq_emod_of_nonneg (by omega), ← hZ, show (n : Int) - 1 = ((n - 1 : Nat) : Int) from by omega]; push_cast; rfl
      have e4 : ((K : Int) + 1 + Z).tmod (n : Int) = (J : Int) := by rw [Int.tmod_eq_emod_of_nonneg (by omega), ← hJ]; push_cast; rfl
      have e4' : ((K : Int) + 1 + Z) % (n : Int) = (J : Int) := by rw [← hJ]; push_cast; rfl
      have e5 : (V : Int).tmod 3 = (T : Int) := by rw [Int.tmod_eq_emod_of_nonneg (by omega)]; omega
      have q1 : IntKind.i64.wrap ((K : Int) + 1) = (K : Int) + 1 := IntWalk.i64_in _ (by omega)
      have q2 : IntKind.i64.wrap ((n : Int) - 1) = (n : Int) - 1 := IntWalk.i64_in _ (by omega)
      have q3 : IntKind.i64.wrap (Q : Int) = (Q : Int) := IntWalk.i64_in _ (by omega)
      have q4 : IntKind.i64.wrap (V : Int) = (V : Int) := IntWalk.i64_in _ (by omega)
      have q5 : IntKind.i64.wrap ((K : Int) + 1 + Z) = (K : Int) + 1 + Z := IntWalk.i64_in _ (by omega)
      have q6 : IntKind.i64.wrap ((T : Int) - 1) = (T : Int) - 1 := IntWalk.i64_in _ (by omega)
      have q7 : IntKind.u8.wrap (Q : Int) = (Q : Int) := IntWalk.u8_in _ (by omega)
      have q8 : IntKind.u8.wrap (V : Int) = (V : Int) := IntWalk.u8_in _ (by omega)
      have m1 : ¬ ((n : Int) - 1 = 0) := by omega
      have m2 : ¬ ((n : Int) = 0) := by omega
      have m3 : ¬ (n = 0) := by omega
      have p1 : (0 : Int) ≤ (q : Int) := by omega
      have p2 : (q : Int) < (cn : Int) := by omega
      have HBJ := hide (And.intro b1 (And.intro b3 b4))
      clear hK hQ hZ hJ hV hT b4
      have hrb := mixP_r HMX.out
      have cr := fun A p w (h : Sl w A zs.length p zs) => specDoOp r c 2 K J ((T : Int) - 1) (by omega) (by omega) A p zs w h (by omega)
      have hmx := mix_step HMX.out hg3 b1 b3 HBJ.out.2.2 ((T : Int) - 1)
      have hrl := mixP_len hmx
      obtain ⟨⟨R', C', XS, ok⟩, hM⟩ : ∃ m, opRes r c zs 2 K J ((T : Int) - 1) = m := ⟨_, rfl⟩
      rw [hM] at cr hmx hrl
      have CR : Hid (∀ A p w, Sl w A zs.length p zs → Calls Try.prog 72 #[mv r c (.slice A zs.length p), opv 2 K J ((T : Int) - 1)] w (RetMat w R' C' XS ok)) := cr
      have HMX' : Hid (MixP n R' C' XS) := hmx
      clear cr hmx hM hrl hrb
      go_wp2_with fail
      rw [e0]
      clear e0
      go_cut [8] (fun s8 wx => ∃ (gx : Nat) (A0 : Option Addr) (z0 : Nat), s8 = .pointer (some ⟨gx, 0, none⟩) ∧ wo.heap.size ≤ gx ∧ Box3 wx gx (.int .i64 R') (.int .i64 C') (.slice A0 XS.length z0) ∧ Own wx wo.heap.size (.slice A0 XS.length z0) XS ∧ Below wo.heap.size wo wx)
      case first =>
        rename_i K0 hK0 J0 K1 hJ0 hM0
        clear hK0 K0
        have KS : Hid (∀ w', Below wo.heap.size wo w' → w'.cell? ⟨w1.heap.size, 0, none⟩ = some (.int .i64 r) ∧ w'.cell? ⟨w1.heap.size, 1, none⟩ = some (.int .i64 c) ∧ w'.cell? ⟨w1.heap.size, 2, none⟩ = some (.slice A zs.length cap) ∧ w'.cell? ⟨g, off + q, none⟩ = some (.int .u8 (Y : Int)) ∧ Below wo.heap.size wo w') := fun w' h => by
          obtain ⟨⟨x0, x1, x2⟩, _⟩ := BM.out.call h
          exact ⟨x0, x1, x2, kc_call hy h, h⟩
        go_region_held3 (fun w' => w'.cell? ⟨w1.heap.size, 0, none⟩ = some (.int .i64 r) ∧ w'.cell? ⟨w1.heap.size, 1, none⟩ = some (.int .i64 c) ∧ w'.cell? ⟨w1.heap.size, 2, none⟩ = some (.slice A zs.length cap) ∧ w'.cell? ⟨g, off + q, none⟩ = some (.int .u8 (Y : Int)) ∧ Below wo.heap.size wo w')
          (first
            | (with_reducible exact KS.out _ (Below.drew (Below.refl _ _)))
            | (with_reducible exact KS.out _ (Below.drew (Below.alloc (Below.refl _ _) (Nat.le_refl _) _)))
            | (have hh := (‹_ ∧ _ ∧ _ ∧ _ ∧ Below wo.heap.size wo _›).2.2.2.2
               first
               | (with_reducible exact KS.out _ (kb_call hh (Nat.le_refl _) hb))
               | (with_reducible exact KS.out _ (Below.alloc hh hh.size _))
               | exact KS.out _ (kb_swap hh (by omega))
               | exact KS.out _ (((hh.setCell (by dsimp only; omega) _).setCell (by dsimp only; omega) _).setCell (by dsimp only; omega) _)))
          (first
            | (go_at_call 72; have hh := (‹_ ∧ _ ∧ _ ∧ _ ∧ Below wo.heap.size wo _›).2.2.2.2; (with_reducible refine (CR.out _ _ _ (Own.sl2 (Own.below HO.out hh))).mono ?_); rintro e w2 ⟨s0, rfl, ho, hb⟩; have hz := hb.size; (try simp only [World.size_alloc, World.size_setCell, World.size_drew, size_drewN] at hz ho); obtain ⟨A0, z0, rfl, _⟩ := Own.sl ho; have hlo := Own.lt ho; have HO2 := hide ho; (first | have GB := hide (Box3.call (Box3.new (x := .int .i64 0) (y := .int .i64 0) (z := .slice none 0 0) _ _ _ rfl) hb) | have GB := hide (Box3.call (Box3.drew (Box3.new (x := .int .i64 0) (y := .int .i64 0) (z := .slice none 0 0) _ _ _ rfl)) hb) | have GB := hide (Box3.call GB.out hb) | skip); (try obtain ⟨⟨g0, g1, g2⟩, f0, f1, f2⟩ := GB.out); clear ho hh))
        all_goals (have hh := (‹_ ∧ _ ∧ _ ∧ _ ∧ Below wo.heap.size wo _›).2.2.2.2; have HH := hide hh; clear hh KS)
        all_goals go_wp2_with fail
        all_goals go_meet
        all_goals (refine ⟨_, A0, z0, rfl, by omega, ?_, ?_, HH.out⟩)
        all_goals first
          | (with_reducible exact Box3.stored GB.out _ _ _)
          | (with_reducible exact Box3.new _ _ _ rfl)
          | (with_reducible refine Own.mono (Own.alloc HO2.out _) ?_; omega)
          | (with_reducible refine Own.mono (Own.set (Own.set (Own.set HO2.out (own_nl hlo ?_) _) (own_nl hlo ?_) _) (own_nl hlo ?_) _) ?_ <;> first | omega | (dsimp only; omega))
      case rest =>
        obtain ⟨gx, A0, z0, rfl, hgx, kx, ho2, hBx⟩ := hcut
        have zx := kx.lt
        have zc := hBx.size
        have hl2 := Own.lt ho2
        have BM2 := hide (BM.out.call hBx)
        have B02 := hide (B0.out.call hBx)
        have KX := hide kx
        have HO2 := hide ho2
        have HB2 := hide (kb_call HBw.out (Nat.le_refl _) hBx)
        have zb0 := B0.out.lt
        clear kx ho2 hBx e1 e2 e3 e4 e4' e5 q1 q2 q3 q4 q5 q6 q7 q8 hy
        obtain ⟨⟨c0, c1, c2⟩, _⟩ := KX.out
        obtain ⟨⟨x0, x1, x2⟩, f0, f1, f2⟩ := BM2.out
        go_wp2_with fail
        go_roundw
        case rel => exact ⟨q + 1, R', C', XS, A0, z0, by go_num, by omega, HMX'.out, ((B02.out.set (by dsimp only; omega) _).set (by dsimp only; omega) _).set (by dsimp only; omega) _, Box3.stored BM2.out _ _ _, Own.mono (Own.set (Own.set (Own.set HO2.out (own_nl hl2 (.inl (by dsimp only; omega))) _) (own_nl hl2 (.inl (by dsimp only; omega))) _) (own_nl hl2 (.inl (by dsimp only; omega))) _) (by omega), fun j e => by have := hl2 j e; omega, ((HB2.out.setCell (by dsimp only; omega) _).setCell (by dsimp only; omega) _).setCell (by dsimp only; omega) _⟩
        case measure => simp [intOf]; omega
    · obtain ⟨⟨c0, c1, c2⟩, _⟩ := BM.out
      obtain ⟨⟨x0, x1, x2⟩, f0, f1, f2⟩ := B0.out
      have hl2 := Own.lt HO.out
      obtain ⟨⟨m0, m1, m2⟩, _⟩ := Box3.stored B0.out (.int .i64 r) (.int .i64 c) (.slice A zs.length cap)
      have RT : Hid (RetMix n w (.returned (mv r c (.slice A zs.length cap))) (((wo.setCell ⟨w.heap.size, 0, none⟩ (.int .i64 r)).setCell ⟨w.heap.size, 1, none⟩ (.int .i64 c)).setCell ⟨w.heap.size, 2, none⟩ (.slice A zs.length cap))) :=
        ⟨r, c, zs, _, rfl, HMX.out, Own.mono (Own.set (Own.set (Own.set HO.out (own_nl hl2 (.inl (by dsimp only; omega))) _) (own_nl hl2 (.inl (by dsimp only; omega))) _) (own_nl hl2 (.inl (by dsimp only; omega))) _) (by omega), ((HBw.out.setCell (by dsimp only; omega) _).setCell (by dsimp only; omega) _).setCell (by dsimp only; omega) _⟩
      by_cases h1 : q < cn
      · have d1 : decide ((q : Int) < (cn : Int)) = true := decide_eq_true (by omega)
        by_cases h2 : q < 6
        · have d2 : decide ((q : Int) < 6) = true := decide_eq_true (by omega)
          have d3 : decide ((1 : Int) < (n : Int)) = false := decide_eq_false (by omega)
          clear hgo
          go_wp2
          exact bodyPost_ret (v := mv (r) (c) (.slice A zs.length cap)) (by first | (simp [results, Try.results33, go_sem, m0, m1, m2]; done) | (simp [results, Try.results33, go_sem]; done)) rfl RT.out
        · have d2 : decide ((q : Int) < 6) = false := decide_eq_false (by omega)
          clear hgo
          go_wp2
          exact bodyPost_ret (v := mv (r) (c) (.slice A zs.length cap)) (by first | (simp [results, Try.results33, go_sem, m0, m1, m2]; done) | (simp [results, Try.results33, go_sem]; done)) rfl RT.out
      · have d1 : decide ((q : Int) < (cn : Int)) = false := decide_eq_false (by omega)
        clear hgo
        go_wp2
        exact bodyPost_ret (v := mv (r) (c) (.slice A zs.length cap)) (by first | (simp [results, Try.results33, go_sem, m0, m1, m2]; done) | (simp [results, Try.results33, go_sem]; done)) rfl RT.out
end Go.Proofs.Ytchlaebkigmfgaa
namespace Go.Proofs.Ytchlaebkigmfgaa
open Go.RowKit
set_option linter.unusedSimpArgs false
set_option linter.unusedVariables false
theorem lawBig_no (A : Option Addr) (n cap : Nat) (w : World) (hn : n ≤ 1048576) :
    Calls Try.prog 24 #[.slice A n cap] w fun e w' => e = .returned (.bool false) ∧ w = w' := by
  have d1 : decide ((1048576 : Int) < (n : Int)) = false := decide_eq_false (by omega)
  go_enter Try.func24, Try.ntmps24
  go_wp2
  go_returns
  exact ⟨rfl, rfl⟩
theorem lawBig_yes (A : Option Addr) (n cap : Nat) (w : World) (hn : 1048576 < n) (hm : n ≤ 9223372036854775807) :
    Calls Try.prog 24 #[.slice A n cap] w fun e w' => e = .returned (.bool true) ∧ w = w' := by
  have d1 : decide ((1048576 : Int) < (n : Int)) = true := decide_eq_true (by omega)
  go_enter Try.func24, Try.ntmps24
  go_wp2
  go_returns
  exact ⟨rfl, rfl⟩
theorem lawAbs (n : Int) (w : World) (h : -9223372036854775808 < n) (h' : n ≤ 9223372036854775807) :
    Calls Try.prog 38 #[.int .i64 n] w fun e w' => e = .returned (.int .i64 (n.natAbs : Int)) ∧ w = w' := by
  go_enter Try.func38, Try.ntmps38
  go_wp2
  all_goals (go_ret; exact ⟨ret_int (by omega), rfl⟩)
theorem lawAbs_at (n x : Int) (hx : Hid ((n.natAbs : Int) = x)) (w : World) (h : -9223372036854775808 < n) (h' : n ≤ 9223372036854775807) :
    Calls Try.prog 38 #[.int .i64 n] w fun e w' => e = .returned (.int .i64 x) ∧ w = w' :=
  (lawAbs n w h h').mono fun _ _ ⟨he, hw⟩ => ⟨by rw [he, hx.out], hw⟩
end Go.Proofs.Ytchlaebkigmfgaa
namespace Go.Proofs.Ytchlaebkigmfgaa
open Go.RowKit
set_option linter.unusedSimpArgs false
set_option linter.unusedVariables false
set_option maxRecDepth 100000 in
set_option maxHeartbeats 16000000 in
theorem walkFnAdjugate (A : Option Addr) (n cap : Nat) (xs : List Int) (w : World) (hs : SlBArg w A n cap xs) :
    Calls Try.prog 10 #[.slice A n cap] w fun e w' => e = .returned (.bool true) ∧ Below w.heap.size w w' := by
  obtain ⟨hx, hm, hs⟩ := hs
  clear hx
  unfold maxLen at hm
  by_cases hn : n ≤ 1048576
  · have HS := hide hs; clear hs
    go_enter Try.func10, Try.ntmps10
    go_wp2_with fail
    refine (lawBig_no A n cap _ hn).mono ?_; rintro e w0 ⟨rfl, rfl⟩
    have HB0 : Hid (Below w.heap.size w w) := Below.refl _ _
    go_wp2_with fail
    refine (drawInv A n cap _ (SlB.mono (SlB.below HS.out HB0.out) HB0.out.size) hn).mono ?_; rintro e w1 ⟨⟨r, c, A3, m3, p3, us, rfl, hm3, ho⟩, hb⟩
    obtain ⟨rfl, _⟩ := Own.reads ho
    have HB1_ := hide ((kb_call HB0.out (Nat.le_refl _) hb).alloc (by have := HB0.out.size; have := hb.size; omega) (.cells #[.int .i64 r, .int .i64 c, .slice A3 us.length p3] 28))
    clear HB0
    have z_1 := hb.size
    (try simp only [World.size_alloc, World.size_setCell, World.size_drew, size_drewN] at z_1)
    have b2_ := hide (Box3.new (x := .int .i64 r) (y := .int .i64 c) (z := .slice A3 us.length p3) w1 w1.heap.size 28 rfl)
    have u3_ := hide (ho |>.alloc (.cells #[.int .i64 r, .int .i64 c, .slice A3 us.length p3] 28))
    clear hb ho
    clear HS
    obtain ⟨Aj, hA⟩ : ∃ Aj, adjRes r c us = Aj := ⟨_, rfl⟩
    obtain ⟨P, hP⟩ : ∃ P, mulRes r c us Aj.R Aj.C Aj.L = P := ⟨_, rfl⟩
    obtain ⟨V, hV⟩ : ∃ V, invRes r c us = V := ⟨_, rfl⟩
    have lA : Aj.L.length ≤ 1048576 := by rw [← hA]; exact AdjugateOf_len
    have lP : P.L.length ≤ 1048576 := by rw [← hP]; exact MultiplyMatrices_len
    have lV : V.L.length ≤ 1048576 := by rw [← hV]; exact InverseOf_len
    have la := fun kA hk kP => adj_law hA kA hk hP kP
    have lv := inv_law hV
    have ln := inv_no hV
    have ia := fun A p w (hA : Sl w A us.length p us) => implAdj r c A p us w hA (by omega)
    have sa := fun A p w (hA : Sl w A us.length p us) => specAdj r c A p us w hA (by omega)
    have iv_ := fun A p w (hA : Sl w A us.length p us) => implInv r c A p us w hA (by omega)
    have d1 := fun A p w (hA : Sl w A us.length p us) => implDetOf r c A p us w hA (by omega)
    have cm := fun A p B q w (hA : Sl w A us.length p us) (hB : Sl w B Aj.L.length q Aj.L) => implMul r c Aj.R Aj.C A B p q us Aj.L w hA (by omega) hB lA
    have c1 := fun A p B q w (hA : Sl w A us.length p us) (hB : Sl w B V.L.length q V.L) => implMul r c V.R V.C A B p q us V.L w hA (by omega) hB lV
    have c2 := fun A p B q w (hA : Sl w A V.L.length p V.L) (hB : Sl w B us.length q us) => implMul V.R V.C r c A B p q V.L us w hA lV hB (by omega)
    have bd := @detRes_in r c us
    rw [hA] at ia sa
    rw [hP] at cm
    rw [hV] at iv_
    clear hA hP hV
    obtain ⟨RA, CA, LA, kA⟩ := Aj
    obtain ⟨RP, CP, LP, kP⟩ := P
    obtain ⟨RV, CV, LV, kV⟩ := V
    obtain ⟨D1, hD1⟩ : ∃ D, detRes r c us = D := ⟨_, rfl⟩
    rw [hD1] at la lv d1 bd
    clear hD1
    obtain ⟨x1, k1⟩ := D1
    simp only at la lv ln cm c1 c2 lA lP lV bd
    have ek : (kA != kA) = false := by simp
    have IA : Hid (∀ A p w, Sl w A us.length p us → Calls Try.prog 21 #[mv r c (.slice A us.length p)] w (RetMat w RA CA LA kA)) := ia
    have SA : Hid (∀ A p w, Sl w A us.length p us → Calls Try.prog 20 #[mv r c (.slice A us.length p)] w (RetMat w RA CA LA kA)) := sa
    have IV : Hid (∀ A p w, Sl w A us.length p us → Calls Try.prog 30 #[mv r c (.slice A us.length p)] w (RetMat w RV CV LV kV)) := iv_
    have D1 : Hid (∀ A p w, Sl w A us.length p us → Calls Try.prog 14 #[mv r c (.slice A us.length p)] w fun e w' => e = .returned (.tuple #[.int .i64 x1, .bool k1]) ∧ Below w.heap.size w w') := d1
    have CM : Hid (∀ A p B q w, Sl w A us.length p us → Sl w B LA.length q LA → Calls Try.prog 27 #[mv r c (.slice A us.length p), mv RA CA (.slice B LA.length q)] w (RetMat w RP CP LP kP)) := cm
    have C1 := hide c1
    have C2 := hide c2
    have LAW := hide la
    have LV_ := hide lv
    have LN := hide ln
    clear ia sa iv_ d1 cm c1 c2 la lv ln
    obtain ⟨⟨c0_0, c0_1, c0_2⟩, _⟩ := b2_.out
    go_wp2_with fail
    refine (IA.out _ _ _ (Own.sl2 u3_.out)).mono ?_; rintro e w2 ⟨s, rfl, ho, hb⟩
    obtain ⟨A2, p2, rfl, _⟩ := Own.sl ho
    have b4_ := hide (b2_.out.call hb |>.alloc (.cells #[.int .i64 RA, .int .i64 CA, .slice A2 LA.length p2] 28))
    clear b2_
    have u5_ := hide (Own.below u3_.out hb |>.alloc (.cells #[.int .i64 RA, .int .i64 CA, .slice A2 LA.length p2] 28))
    clear u3_
    have HB6_ := hide ((kb_call HB1_.out (Nat.le_refl _) hb).alloc (by have := HB1_.out.size; have := hb.size; omega) (.cells #[.int .i64 RA, .int .i64 CA, .slice A2 LA.length p2] 28))
    clear HB1_
    have z_2 := hb.size
    (try simp only [World.size_alloc, World.size_setCell, World.size_drew, size_drewN] at z_2)
    have b7_ := hide (Box3.new (x := .int .i64 RA) (y := .int .i64 CA) (z := .slice A2 LA.length p2) w2 w2.heap.size 28 rfl)
    have u8_ := hide (ho |>.alloc (.cells #[.int .i64 RA, .int .i64 CA, .slice A2 LA.length p2] 28))
    clear hb ho c0_0 c0_1 c0_2
    obtain ⟨⟨c0_0, c0_1, c0_2⟩, _⟩ := b4_.out
    go_wp2_with fail
    refine (SA.out _ _ _ (Own.sl2 u5_.out)).mono ?_; rintro e w4 ⟨s, rfl, ho, hb⟩
    obtain ⟨A4, p4, rfl, _⟩ := Own.sl ho
    have b9_ := hide (b4_.out.call hb |>.alloc (.cells #[.int .i64 RA, .int .i64 CA, .slice A4 LA.length p4] 28))
    clear b4_
    have u10_ := hide (Own.below u5_.out hb |>.alloc (.cells #[.int .i64 RA, .int .i64 CA, .slice A4 LA.length p4] 28))
    clear u5_
    have b11_ := hide (b7_.out.call hb |>.alloc (.cells #[.int .i64 RA, .int .i64 CA, .slice A4 LA.length p4] 28))
    clear b7_
    have u12_ := hide (Own.below u8_.out hb |>.alloc (.cells #[.int .i64 RA, .int .i64 CA, .slice A4 LA.length p4] 28))
    clear u8_
    have HB13_ := hide ((kb_call HB6_.out (Nat.le_refl _) hb).alloc (by have := HB6_.out.size; have := hb.size; omega) (.cells #[.int .i64 RA, .int .i64 CA, .slice A4 LA.length p4] 28))
    clear HB6_
    have z_3 := hb.size
    (try simp only [World.size_alloc, World.size_setCell, World.size_drew, size_drewN] at z_3)
    have b14_ := hide (Box3.new (x := .int .i64 RA) (y := .int .i64 CA) (z := .slice A4 LA.length p4) w4 w4.heap.size 28 rfl)
    have u15_ := hide (ho |>.alloc (.cells #[.int .i64 RA, .int .i64 CA, .slice A4 LA.length p4] 28))
    clear hb ho c0_0 c0_1 c0_2
    clear b14_
    clear u15_
    obtain ⟨⟨c0_0, c0_1, c0_2⟩, _⟩ := b9_.out
    go_wp2_with fail
    refine (D1.out _ _ _ (Own.sl2 u10_.out)).mono ?_; rintro e w5 ⟨rfl, hb⟩
    have b16_ := hide (b9_.out.call hb)
    clear b9_
    have u17_ := hide (Own.below u10_.out hb)
    clear u10_
    have b18_ := hide (b11_.out.call hb)
    clear b11_
    have u19_ := hide (Own.below u12_.out hb)
    clear u12_
    have HB20_ := hide (kb_call HB13_.out (Nat.le_refl _) hb)
    clear HB13_
    have z_4 := hb.size
    (try simp only [World.size_alloc, World.size_setCell, World.size_drew, size_drewN] at z_4)
    clear hb c0_0 c0_1 c0_2
    obtain ⟨⟨c0_0, c0_1, c0_2⟩, _⟩ := b16_.out
    obtain ⟨⟨c1_0, c1_1, c1_2⟩, _⟩ := b18_.out
    go_wp2_with fail
    refine (CM.out _ _ _ _ _ (Own.sl2 u17_.out) (Own.sl2 u19_.out)).mono ?_; rintro e w7 ⟨s, rfl, ho, hb⟩
    obtain ⟨A7, p7, rfl, _⟩ := Own.sl ho
    have b21_ := hide (b16_.out.call hb |>.alloc (.cells #[.int .i64 RP, .int .i64 CP, .slice A7 LP.length p7] 28))
    clear b16_
    have u22_ := hide (Own.below u17_.out hb |>.alloc (.cells #[.int .i64 RP, .int .i64 CP, .slice A7 LP.length p7] 28))
    clear u17_
    have b23_ := hide (b18_.out.call hb |>.alloc (.cells #[.int .i64 RP, .int .i64 CP, .slice A7 LP.length p7] 28))
    clear b18_
    have u24_ := hide (Own.below u19_.out hb |>.alloc (.cells #[.int .i64 RP, .int .i64 CP, .slice A7 LP.length p7] 28))
    clear u19_
    have HB25_ := hide ((kb_call HB20_.out (Nat.le_refl _) hb).alloc (by have := HB20_.out.size; have := hb.size; omega) (.cells #[.int .i64 RP, .int .i64 CP, .slice A7 LP.length p7] 28))
    clear HB20_
    have z_5 := hb.size
    (try simp only [World.size_alloc, World.size_setCell, World.size_drew, size_drewN] at z_5)
    have b26_ := hide (Box3.new (x := .int .i64 RP) (y := .int .i64 CP) (z := .slice A7 LP.length p7) w7 w7.heap.size 28 rfl)
    have u27_ := hide (ho |>.alloc (.cells #[.int .i64 RP, .int .i64 CP, .slice A7 LP.length p7] 28))
    clear hb ho c0_0 c0_1 c0_2 c1_0 c1_1 c1_2
    clear b23_
    clear u24_
    cases kA with
    | false =>
      clear LAW
      clear b26_
      clear u27_
      cases kV with
      | false =>
        have dL : ((LV.length : Int) == 0) = true := by rw [LN.out rfl]; rfl
        have DL := hide dL
        clear dL
        obtain ⟨⟨c0_0, c0_1, c0_2⟩, _⟩ := b21_.out
        go_wp2_with fail
        refine (IV.out _ _ _ (Own.sl2 u22_.out)).mono ?_; rintro e w9 ⟨s, rfl, ho, hb⟩
        obtain ⟨A9, p9, rfl, _⟩ := Own.sl ho
        have b28_ := hide (b21_.out.call hb |>.alloc (.cells #[.int .i64 RV, .int .i64 CV, .slice A9 LV.length p9] 28))
        clear b21_
        have u29_ := hide (Own.below u22_.out hb |>.alloc (.cells #[.int .i64 RV, .int .i64 CV, .slice A9 LV.length p9] 28))
        clear u22_
        have HB30_ := hide ((kb_call HB25_.out (Nat.le_refl _) hb).alloc (by have := HB25_.out.size; have := hb.size; omega) (.cells #[.int .i64 RV, .int .i64 CV, .slice A9 LV.length p9] 28))
        clear HB25_
        have z_6 := hb.size
        (try simp only [World.size_alloc, World.size_setCell, World.size_drew, size_drewN] at z_6)
        have b31_ := hide (Box3.new (x := .int .i64 RV) (y := .int .i64 CV) (z := .slice A9 LV.length p9) w9 w9.heap.size 28 rfl)
        have u32_ := hide (ho |>.alloc (.cells #[.int .i64 RV, .int .i64 CV, .slice A9 LV.length p9] 28))
        clear hb ho c0_0 c0_1 c0_2
        have dL := DL.out
        obtain ⟨⟨c0_0, c0_1, c0_2⟩, _⟩ := b31_.out
        go_wp2
        go_returns
        exact ⟨rfl, HB30_.out⟩
      | true =>
        obtain ⟨N_, hr, hc, h6, hd, e1, e2⟩ := LV_.out rfl
        have c1 := C1.out
        have c2 := C2.out
        rw [e1] at c1
        rw [e2] at c2
        clear e1 e2 C1 C2
        subst hr
        subst hc
        obtain ⟨N, hN_⟩ : ∃ N, N = N_ := ⟨_, rfl⟩
        subst hN_
        have un := fun w => lawUnit N (by omega) w
        have hl0 := idTo_length N N
        have hl1 := nn_le (n := N) (by omega)
        have hl2 : (idTo N N).length ≤ 576 := by omega
        clear hl0 hl1
        generalize idTo N N = L0 at *
        have UN := hide un
        clear un
        have ab := fun w => lawAbs_at x1 1 (by rw [Hid, hd]; rfl) w (by omega) (by omega)
        have AB := hide ab
        have si := fun A p B q w (hA : SlI w A L0) (hB : SlI w B L0) => implSameMatrix N N N N A B p q L0 L0 w hA hB (by omega) (by omega)
        have ss := fun A p B q w (hA : SlI w A L0) (hB : SlI w B L0) => specSameMatrix N N N N A B p q L0 L0 w hA hB (by omega) (by omega)
        rw [show sameB N N L0 N N L0 = true from same_mk] at si ss
        have SI := hide si
        have SS := hide ss
        clear ab si ss hd
        have C1 : Hid (∀ A p B q w, Sl w A us.length p us → Sl w B LV.length q LV → Calls Try.prog 27 #[mv N N (.slice A us.length p), mv RV CV (.slice B LV.length q)] w (RetMat w N N L0 true)) := c1
        have C2 : Hid (∀ A p B q w, Sl w A LV.length p LV → Sl w B us.length q us → Calls Try.prog 27 #[mv RV CV (.slice A LV.length p), mv N N (.slice B us.length q)] w (RetMat w N N L0 true)) := c2
        clear c1 c2
        obtain ⟨⟨c0_0, c0_1, c0_2⟩, _⟩ := b21_.out
        go_wp2_with fail
        refine (IV.out _ _ _ (Own.sl2 u22_.out)).mono ?_; rintro e w9 ⟨s, rfl, ho, hb⟩
        obtain ⟨A9, p9, rfl, _⟩ := Own.sl ho
        have b33_ := hide (b21_.out.call hb |>.alloc (.cells #[.int .i64 RV, .int .i64 CV, .slice A9 LV.length p9] 28))
        clear b21_
        have u34_ := hide (Own.below u22_.out hb |>.alloc (.cells #[.int .i64 RV, .int .i64 CV, .slice A9 LV.length p9] 28))
        clear u22_
        have HB35_ := hide ((kb_call HB25_.out (Nat.le_refl _) hb).alloc (by have := HB25_.out.size; have := hb.size; omega) (.cells #[.int .i64 RV, .int .i64 CV, .slice A9 LV.length p9] 28))
        clear HB25_
        have z_6 := hb.size
        (try simp only [World.size_alloc, World.size_setCell, World.size_drew, size_drewN] at z_6)
        have b36_ := hide (Box3.new (x := .int .i64 RV) (y := .int .i64 CV) (z := .slice A9 LV.length p9) w9 w9.heap.size 28 rfl)
        have u37_ := hide (ho |>.alloc (.cells #[.int .i64 RV, .int .i64 CV, .slice A9 LV.length p9] 28))
        clear hb ho c0_0 c0_1 c0_2
        obtain ⟨⟨c0_0, c0_1, c0_2⟩, _⟩ := b33_.out
        obtain ⟨⟨c1_0, c1_1, c1_2⟩, _⟩ := b36_.out
        go_wp2_with fail
        refine (C1.out _ _ _ _ _ (Own.sl2 u34_.out) (Own.sl2 u37_.out)).mono ?_; rintro e w11 ⟨s, rfl, ho, hb⟩
        obtain ⟨A11, p11, rfl, _⟩ := Own.sl ho
        have b38_ := hide (b33_.out.call hb |>.alloc (.cells #[.int .i64 N, .int .i64 N, .slice A11 L0.length p11] 28))
        clear b33_
        have u39_ := hide (Own.below u34_.out hb |>.alloc (.cells #[.int .i64 N, .int .i64 N, .slice A11 L0.length p11] 28))
        clear u34_
        have b40_ := hide (b36_.out.call hb |>.alloc (.cells #[.int .i64 N, .int .i64 N, .slice A11 L0.length p11] 28))
        clear b36_
        have u41_ := hide (Own.below u37_.out hb |>.alloc (.cells #[.int .i64 N, .int .i64 N, .slice A11 L0.length p11] 28))
        clear u37_
        have HB42_ := hide ((kb_call HB35_.out (Nat.le_refl _) hb).alloc (by have := HB35_.out.size; have := hb.size; omega) (.cells #[.int .i64 N, .int .i64 N, .slice A11 L0.length p11] 28))
        clear HB35_
        have z_7 := hb.size
        (try simp only [World.size_alloc, World.size_setCell, World.size_drew, size_drewN] at z_7)
        have b43_ := hide (Box3.new (x := .int .i64 N) (y := .int .i64 N) (z := .slice A11 L0.length p11) w11 w11.heap.size 28 rfl)
        have u44_ := hide (ho |>.alloc (.cells #[.int .i64 N, .int .i64 N, .slice A11 L0.length p11] 28))
        clear hb ho c0_0 c0_1 c0_2 c1_0 c1_1 c1_2
        obtain ⟨⟨c0_0, c0_1, c0_2⟩, _⟩ := b40_.out
        obtain ⟨⟨c1_0, c1_1, c1_2⟩, _⟩ := b38_.out
        go_wp2_with fail
        refine (C2.out _ _ _ _ _ (Own.sl2 u41_.out) (Own.sl2 u39_.out)).mono ?_; rintro e w13 ⟨s, rfl, ho, hb⟩
        obtain ⟨A13, p13, rfl, _⟩ := Own.sl ho
        have b45_ := hide (b38_.out.call hb |>.alloc (.cells #[.int .i64 N, .int .i64 N, .slice A13 L0.length p13] 28))
        clear b38_
        have u46_ := hide (Own.below u39_.out hb |>.alloc (.cells #[.int .i64 N, .int .i64 N, .slice A13 L0.length p13] 28))
        clear u39_
        have b47_ := hide (b40_.out.call hb |>.alloc (.cells #[.int .i64 N, .int .i64 N, .slice A13 L0.length p13] 28))
        clear b40_
        have u48_ := hide (Own.below u41_.out hb |>.alloc (.cells #[.int .i64 N, .int .i64 N, .slice A13 L0.length p13] 28))
        clear u41_
        have b49_ := hide (b43_.out.call hb |>.alloc (.cells #[.int .i64 N, .int .i64 N, .slice A13 L0.length p13] 28))
        clear b43_
        have u50_ := hide (Own.below u44_.out hb |>.alloc (.cells #[.int .i64 N, .int .i64 N, .slice A13 L0.length p13] 28))
        clear u44_
        have HB51_ := hide ((kb_call HB42_.out (Nat.le_refl _) hb).alloc (by have := HB42_.out.size; have := hb.size; omega) (.cells #[.int .i64 N, .int .i64 N, .slice A13 L0.length p13] 28))
        clear HB42_
        have z_8 := hb.size
        (try simp only [World.size_alloc, World.size_setCell, World.size_drew, size_drewN] at z_8)
        have b52_ := hide (Box3.new (x := .int .i64 N) (y := .int .i64 N) (z := .slice A13 L0.length p13) w13 w13.heap.size 28 rfl)
        have u53_ := hide (ho |>.alloc (.cells #[.int .i64 N, .int .i64 N, .slice A13 L0.length p13] 28))
        clear hb ho c0_0 c0_1 c0_2 c1_0 c1_1 c1_2
        clear b47_
        clear u48_
        go_wp2_with fail
        obtain ⟨W, hW_⟩ : ∃ W_, w13.alloc (.cells #[.int .i64 N, .int .i64 N, .slice A13 L0.length p13] 28) = W_ := ⟨_, rfl⟩
        rw [hW_]
        have t_ := b45_.out
        rw [hW_] at t_
        have b54_ := hide t_
        clear b45_ t_
        have t_ := u46_.out
        rw [hW_] at t_
        have u55_ := hide t_
        clear u46_ t_
        have t_ := b49_.out
        rw [hW_] at t_
        have b56_ := hide t_
        clear b49_ t_
        have t_ := u50_.out
        rw [hW_] at t_
        have u57_ := hide t_
        clear u50_ t_
        have t_ := b52_.out
        rw [hW_] at t_
        have b58_ := hide t_
        clear b52_ t_
        have t_ := u53_.out
        rw [hW_] at t_
        have u59_ := hide t_
        clear u53_ t_
        have t_ := HB51_.out
        rw [hW_] at t_
        have HB60_ := hide t_
        clear HB51_ t_ hW_
        have KS : Hid (∀ w', Below W.heap.size W w' → w'.cell? ⟨w11.heap.size, 0, none⟩ = some (.int .i64 N) ∧ w'.cell? ⟨w11.heap.size, 1, none⟩ = some (.int .i64 N) ∧ w'.cell? ⟨w11.heap.size, 2, none⟩ = some (.slice A11 L0.length p11) ∧ w'.cell? ⟨w13.heap.size, 0, none⟩ = some (.int .i64 N) ∧ w'.cell? ⟨w13.heap.size, 1, none⟩ = some (.int .i64 N) ∧ w'.cell? ⟨w13.heap.size, 2, none⟩ = some (.slice A13 L0.length p13) ∧ w'.cell? ⟨w1.heap.size, 0, none⟩ = some (.int .i64 N) ∧ Below W.heap.size W w') := fun w' h => by
          obtain ⟨⟨x0, x1, x2⟩, _⟩ := b56_.out.call h
          obtain ⟨⟨y0, y1, y2⟩, _⟩ := b58_.out.call h
          obtain ⟨⟨a0, a1, a2⟩, _⟩ := b54_.out.call h
          exact ⟨x0, x1, x2, y0, y1, y2, a0, h⟩
        have XR := hide (Own.reads u57_.out).2
        have YR := hide (Own.reads u59_.out).2
        go_region_held3 (fun w' => w'.cell? ⟨w11.heap.size, 0, none⟩ = some (.int .i64 N) ∧ w'.cell? ⟨w11.heap.size, 1, none⟩ = some (.int .i64 N) ∧ w'.cell? ⟨w11.heap.size, 2, none⟩ = some (.slice A11 L0.length p11) ∧ w'.cell? ⟨w13.heap.size, 0, none⟩ = some (.int .i64 N) ∧ w'.cell? ⟨w13.heap.size, 1, none⟩ = some (.int .i64 N) ∧ w'.cell? ⟨w13.heap.size, 2, none⟩ = some (.slice A13 L0.length p13) ∧ w'.cell? ⟨w1.heap.size, 0, none⟩ = some (.int .i64 N) ∧ Below W.heap.size W w')
          (first
            | (with_reducible assumption)
            | (with_reducible exact KS.out _ (Below.drew (Below.refl _ _)))
            | (have hh := (‹_ ∧ _ ∧ _ ∧ _ ∧ _ ∧ _ ∧ _ ∧ Below W.heap.size W _›).2.2.2.2.2.2.2; with_reducible exact KS.out _ (kb_call hh (Nat.le_refl _) hb)))
          (first
            | (go_at_call 38; (with_reducible refine (AB.out _).mono ?_); rintro e w14 ⟨rfl, rfl⟩)
            | (go_at_call 36; (with_reducible refine (UN.out _).mono ?_); rintro e w15 ⟨s9, rfl, ho, hb⟩; obtain ⟨A15, p15, rfl, _⟩ := Own.sl ho; have HU := hide (Own.reads ho).2; clear ho)
            | (go_at_call 37; have hh := (‹_ ∧ _ ∧ _ ∧ _ ∧ _ ∧ _ ∧ _ ∧ Below W.heap.size W _›).2.2.2.2.2.2.2; (with_reducible refine (SI.out _ _ _ _ _ (SlI.below XR.out hh) HU.out).mono ?_); rintro e w16 ⟨rfl, hb⟩; clear hh)
            | (go_at_call 39; have hh := (‹_ ∧ _ ∧ _ ∧ _ ∧ _ ∧ _ ∧ _ ∧ Below W.heap.size W _›).2.2.2.2.2.2.2; (with_reducible refine (SS.out _ _ _ _ _ (SlI.below YR.out hh) HU.out).mono ?_); rintro e w17 ⟨rfl, hb⟩; clear hh))
        have hh := (‹_ ∧ _ ∧ _ ∧ _ ∧ _ ∧ _ ∧ _ ∧ Below W.heap.size W _›).2.2.2.2.2.2.2
        have HE := hide (kb_call HB60_.out (Nat.le_refl _) hh)
        clear hh KS
        go_wp2
        go_returns
        exact ⟨rfl, HE.out⟩
    | true =>
      cases k1 with
      | false =>
        clear LAW
        clear b26_
        clear u27_
        cases kV with
        | false =>
          have dL : ((LV.length : Int) == 0) = true := by rw [LN.out rfl]; rfl
          have DL := hide dL
          clear dL
          obtain ⟨⟨c0_0, c0_1, c0_2⟩, _⟩ := b21_.out
          go_wp2_with fail
          refine (IV.out _ _ _ (Own.sl2 u22_.out)).mono ?_; rintro e w9 ⟨s, rfl, ho, hb⟩
          obtain ⟨A9, p9, rfl, _⟩ := Own.sl ho
          have b61_ := hide (b21_.out.call hb |>.alloc (.cells #[.int .i64 RV, .int .i64 CV, .slice A9 LV.length p9] 28))
          clear b21_
          have u62_ := hide (Own.below u22_.out hb |>.alloc (.cells #[.int .i64 RV, .int .i64 CV, .slice A9 LV.length p9] 28))
          clear u22_
          have HB63_ := hide ((kb_call HB25_.out (Nat.le_refl _) hb).alloc (by have := HB25_.out.size; have := hb.size; omega) (.cells #[.int .i64 RV, .int .i64 CV, .slice A9 LV.length p9] 28))
          clear HB25_
          have z_6 := hb.size
          (try simp only [World.size_alloc, World.size_setCell, World.size_drew, size_drewN] at z_6)
          have b64_ := hide (Box3.new (x := .int .i64 RV) (y := .int .i64 CV) (z := .slice A9 LV.length p9) w9 w9.heap.size 28 rfl)
          have u65_ := hide (ho |>.alloc (.cells #[.int .i64 RV, .int .i64 CV, .slice A9 LV.length p9] 28))
          clear hb ho c0_0 c0_1 c0_2
          have dL := DL.out
          obtain ⟨⟨c0_0, c0_1, c0_2⟩, _⟩ := b64_.out
          go_wp2
          go_returns
          exact ⟨rfl, HB63_.out⟩
        | true =>
          obtain ⟨N_, hr, hc, h6, hd, e1, e2⟩ := LV_.out rfl
          have c1 := C1.out
          have c2 := C2.out
          rw [e1] at c1
          rw [e2] at c2
          clear e1 e2 C1 C2
          subst hr
          subst hc
          obtain ⟨N, hN_⟩ : ∃ N, N = N_ := ⟨_, rfl⟩
          subst hN_
          have un := fun w => lawUnit N (by omega) w
          have hl0 := idTo_length N N
          have hl1 := nn_le (n := N) (by omega)
          have hl2 : (idTo N N).length ≤ 576 := by omega
          clear hl0 hl1
          generalize idTo N N = L0 at *
          have UN := hide un
          clear un
          have ab := fun w => lawAbs_at x1 1 (by rw [Hid, hd]; rfl) w (by omega) (by omega)
          have AB := hide ab
          have si := fun A p B q w (hA : SlI w A L0) (hB : SlI w B L0) => implSameMatrix N N N N A B p q L0 L0 w hA hB (by omega) (by omega)
          have ss := fun A p B q w (hA : SlI w A L0) (hB : SlI w B L0) => specSameMatrix N N N N A B p q L0 L0 w hA hB (by omega) (by omega)
          rw [show sameB N N L0 N N L0 = true from same_mk] at si ss
          have SI := hide si
          have SS := hide ss
          clear ab si ss hd
          have C1 : Hid (∀ A p B q w, Sl w A us.length p us → Sl w B LV.length q LV → Calls Try.prog 27 #[mv N N (.slice A us.length p), mv RV CV (.slice B LV.length q)] w (RetMat w N N L0 true)) := c1
          have C2 : Hid (∀ A p B q w, Sl w A LV.length p LV → Sl w B us.length q us → Calls Try.prog 27 #[mv RV CV (.slice A LV.length p), mv N N (.slice B us.length q)] w (RetMat w N N L0 true)) := c2
          clear c1 c2
          obtain ⟨⟨c0_0, c0_1, c0_2⟩, _⟩ := b21_.out
          go_wp2_with fail
          refine (IV.out _ _ _ (Own.sl2 u22_.out)).mono ?_; rintro e w9 ⟨s, rfl, ho, hb⟩
          obtain ⟨A9, p9, rfl, _⟩ := Own.sl ho
          have b66_ := hide (b21_.out.call hb |>.alloc (.cells #[.int .i64 RV, .int .i64 CV, .slice A9 LV.length p9] 28))
          clear b21_
          have u67_ := hide (Own.below u22_.out hb |>.alloc (.cells #[.int .i64 RV, .int .i64 CV, .slice A9 LV.length p9] 28))
          clear u22_
          have HB68_ := hide ((kb_call HB25_.out (Nat.le_refl _) hb).alloc (by have := HB25_.out.size; have := hb.size; omega) (.cells #[.int .i64 RV, .int .i64 CV, .slice A9 LV.length p9] 28))
          clear HB25_
          have z_6 := hb.size
          (try simp only [World.size_alloc, World.size_setCell, World.size_drew, size_drewN] at z_6)
          have b69_ := hide (Box3.new (x := .int .i64 RV) (y := .int .i64 CV) (z := .slice A9 LV.length p9) w9 w9.heap.size 28 rfl)
          have u70_ := hide (ho |>.alloc (.cells #[.int .i64 RV, .int .i64 CV, .slice A9 LV.length p9] 28))
          clear hb ho c0_0 c0_1 c0_2
          obtain ⟨⟨c0_0, c0_1, c0_2⟩, _⟩ := b66_.out
          obtain ⟨⟨c1_0, c1_1, c1_2⟩, _⟩ := b69_.out
          go_wp2_with fail
          refine (C1.out _ _ _ _ _ (Own.sl2 u67_.out) (Own.sl2 u70_.out)).mono ?_; rintro e w11 ⟨s, rfl, ho, hb⟩
          obtain ⟨A11, p11, rfl, _⟩ := Own.sl ho
          have b71_ := hide (b66_.out.call hb |>.alloc (.cells #[.int .i64 N, .int .i64 N, .slice A11 L0.length p11] 28))
          clear b66_
          have u72_ := hide (Own.below u67_.out hb |>.alloc (.cells #[.int .i64 N, .int .i64 N, .slice A11 L0.length p11] 28))
          clear u67_
          have b73_ := hide (b69_.out.call hb |>.alloc (.cells #[.int .i64 N, .int .i64 N, .slice A11 L0.length p11] 28))
          clear b69_
          have u74_ := hide (Own.below u70_.out hb |>.alloc (.cells #[.int .i64 N, .int .i64 N, .slice A11 L0.length p11] 28))
          clear u70_
          have HB75_ := hide ((kb_call HB68_.out (Nat.le_refl _) hb).alloc (by have := HB68_.out.size; have := hb.size; omega) (.cells #[.int .i64 N, .int .i64 N, .slice A11 L0.length p11] 28))
          clear HB68_
          have z_7 := hb.size
          (try simp only [World.size_alloc, World.size_setCell, World.size_drew, size_drewN] at z_7)
          have b76_ := hide (Box3.new (x := .int .i64 N) (y := .int .i64 N) (z := .slice A11 L0.length p11) w11 w11.heap.size 28 rfl)
          have u77_ := hide (ho |>.alloc (.cells #[.int .i64 N, .int .i64 N, .slice A11 L0.length p11] 28))
          clear hb ho c0_0 c0_1 c0_2 c1_0 c1_1 c1_2
          obtain ⟨⟨c0_0, c0_1, c0_2⟩, _⟩ := b73_.out
          obtain ⟨⟨c1_0, c1_1, c1_2⟩, _⟩ := b71_.out
          go_wp2_with fail
          refine (C2.out _ _ _ _ _ (Own.sl2 u74_.out) (Own.sl2 u72_.out)).mono ?_; rintro e w13 ⟨s, rfl, ho, hb⟩
          obtain ⟨A13, p13, rfl, _⟩ := Own.sl ho
          have b78_ := hide (b71_.out.call hb |>.alloc (.cells #[.int .i64 N, .int .i64 N, .slice A13 L0.length p13] 28))
          clear b71_
          have u79_ := hide (Own.below u72_.out hb |>.alloc (.cells #[.int .i64 N, .int .i64 N, .slice A13 L0.length p13] 28))
          clear u72_
          have b80_ := hide (b73_.out.call hb |>.alloc (.cells #[.int .i64 N, .int .i64 N, .slice A13 L0.length p13] 28))
          clear b73_
          have u81_ := hide (Own.below u74_.out hb |>.alloc (.cells #[.int .i64 N, .int .i64 N, .slice A13 L0.length p13] 28))
          clear u74_
          have b82_ := hide (b76_.out.call hb |>.alloc (.cells #[.int .i64 N, .int .i64 N, .slice A13 L0.length p13] 28))
          clear b76_
          have u83_ := hide (Own.below u77_.out hb |>.alloc (.cells #[.int .i64 N, .int .i64 N, .slice A13 L0.length p13] 28))
          clear u77_
          have HB84_ := hide ((kb_call HB75_.out (Nat.le_refl _) hb).alloc (by have := HB75_.out.size; have := hb.size; omega) (.cells #[.int .i64 N, .int .i64 N, .slice A13 L0.length p13] 28))
          clear HB75_
          have z_8 := hb.size
          (try simp only [World.size_alloc, World.size_setCell, World.size_drew, size_drewN] at z_8)
          have b85_ := hide (Box3.new (x := .int .i64 N) (y := .int .i64 N) (z := .slice A13 L0.length p13) w13 w13.heap.size 28 rfl)
          have u86_ := hide (ho |>.alloc (.cells #[.int .i64 N, .int .i64 N, .slice A13 L0.length p13] 28))
          clear hb ho c0_0 c0_1 c0_2 c1_0 c1_1 c1_2
          clear b80_
          clear u81_
          go_wp2_with fail
          obtain ⟨W, hW_⟩ : ∃ W_, w13.alloc (.cells #[.int .i64 N, .int .i64 N, .slice A13 L0.length p13] 28) = W_ := ⟨_, rfl⟩
          rw [hW_]
          have t_ := b78_.out
          rw [hW_] at t_
          have b87_ := hide t_
          clear b78_ t_
          have t_ := u79_.out
          rw [hW_] at t_
          have u88_ := hide t_
          clear u79_ t_
          have t_ := b82_.out
          rw [hW_] at t_
          have b89_ := hide t_
          clear b82_ t_
          have t_ := u83_.out
          rw [hW_] at t_
          have u90_ := hide t_
          clear u83_ t_
          have t_ := b85_.out
          rw [hW_] at t_
          have b91_ := hide t_
          clear b85_ t_
          have t_ := u86_.out
          rw [hW_] at t_
          have u92_ := hide t_
          clear u86_ t_
          have t_ := HB84_.out
          rw [hW_] at t_
          have HB93_ := hide t_
          clear HB84_ t_ hW_
          have KS : Hid (∀ w', Below W.heap.size W w' → w'.cell? ⟨w11.heap.size, 0, none⟩ = some (.int .i64 N) ∧ w'.cell? ⟨w11.heap.size, 1, none⟩ = some (.int .i64 N) ∧ w'.cell? ⟨w11.heap.size, 2, none⟩ = some (.slice A11 L0.length p11) ∧ w'.cell? ⟨w13.heap.size, 0, none⟩ = some (.int .i64 N) ∧ w'.cell? ⟨w13.heap.size, 1, none⟩ = some (.int .i64 N) ∧ w'.cell? ⟨w13.heap.size, 2, none⟩ = some (.slice A13 L0.length p13) ∧ w'.cell? ⟨w1.heap.size, 0, none⟩ = some (.int .i64 N) ∧ Below W.heap.size W w') := fun w' h => by
            obtain ⟨⟨x0, x1, x2⟩, _⟩ := b89_.out.call h
            obtain ⟨⟨y0, y1, y2⟩, _⟩ := b91_.out.call h
            obtain ⟨⟨a0, a1, a2⟩, _⟩ := b87_.out.call h
            exact ⟨x0, x1, x2, y0, y1, y2, a0, h⟩
          have XR := hide (Own.reads u90_.out).2
          have YR := hide (Own.reads u92_.out).2
          go_region_held3 (fun w' => w'.cell? ⟨w11.heap.size, 0, none⟩ = some (.int .i64 N) ∧ w'.cell? ⟨w11.heap.size, 1, none⟩ = some (.int .i64 N) ∧ w'.cell? ⟨w11.heap.size, 2, none⟩ = some (.slice A11 L0.length p11) ∧ w'.cell? ⟨w13.heap.size, 0, none⟩ = some (.int .i64 N) ∧ w'.cell? ⟨w13.heap.size, 1, none⟩ = some (.int .i64 N) ∧ w'.cell? ⟨w13.heap.size, 2, none⟩ = some (.slice A13 L0.length p13) ∧ w'.cell? ⟨w1.heap.size, 0, none⟩ = some (.int .i64 N) ∧ Below W.heap.size W w')
            (first
              | (with_reducible assumption)
              | (with_reducible exact KS.out _ (Below.drew (Below.refl _ _)))
              | (have hh := (‹_ ∧ _ ∧ _ ∧ _ ∧ _ ∧ _ ∧ _ ∧ Below W.heap.size W _›).2.2.2.2.2.2.2; with_reducible exact KS.out _ (kb_call hh (Nat.le_refl _) hb)))
            (first
              | (go_at_call 38; (with_reducible refine (AB.out _).mono ?_); rintro e w14 ⟨rfl, rfl⟩)
              | (go_at_call 36; (with_reducible refine (UN.out _).mono ?_); rintro e w15 ⟨s9, rfl, ho, hb⟩; obtain ⟨A15, p15, rfl, _⟩ := Own.sl ho; have HU := hide (Own.reads ho).2; clear ho)
              | (go_at_call 37; have hh := (‹_ ∧ _ ∧ _ ∧ _ ∧ _ ∧ _ ∧ _ ∧ Below W.heap.size W _›).2.2.2.2.2.2.2; (with_reducible refine (SI.out _ _ _ _ _ (SlI.below XR.out hh) HU.out).mono ?_); rintro e w16 ⟨rfl, hb⟩; clear hh)
              | (go_at_call 39; have hh := (‹_ ∧ _ ∧ _ ∧ _ ∧ _ ∧ _ ∧ _ ∧ Below W.heap.size W _›).2.2.2.2.2.2.2; (with_reducible refine (SS.out _ _ _ _ _ (SlI.below YR.out hh) HU.out).mono ?_); rintro e w17 ⟨rfl, hb⟩; clear hh))
          have hh := (‹_ ∧ _ ∧ _ ∧ _ ∧ _ ∧ _ ∧ _ ∧ Below W.heap.size W _›).2.2.2.2.2.2.2
          have HE := hide (kb_call HB93_.out (Nat.le_refl _) hh)
          clear hh KS
          go_wp2
          go_returns
          exact ⟨rfl, HE.out⟩
      | true =>
        cases kP with
        | false =>
          clear LAW
          clear b26_
          clear u27_
          cases kV with
          | false =>
            have dL : ((LV.length : Int) == 0) = true := by rw [LN.out rfl]; rfl
            have DL := hide dL
            clear dL
            obtain ⟨⟨c0_0, c0_1, c0_2⟩, _⟩ := b21_.out
            go_wp2_with fail
            refine (IV.out _ _ _ (Own.sl2 u22_.out)).mono ?_; rintro e w9 ⟨s, rfl, ho, hb⟩
            obtain ⟨A9, p9, rfl, _⟩ := Own.sl ho
            have b94_ := hide (b21_.out.call hb |>.alloc (.cells #[.int .i64 RV, .int .i64 CV, .slice A9 LV.length p9] 28))
            clear b21_
            have u95_ := hide (Own.below u22_.out hb |>.alloc (.cells #[.int .i64 RV, .int .i64 CV, .slice A9 LV.length p9] 28))
            clear u22_
            have HB96_ := hide ((kb_call HB25_.out (Nat.le_refl _) hb).alloc (by have := HB25_.out.size; have := hb.size; omega) (.cells #[.int .i64 RV, .int .i64 CV, .slice A9 LV.length p9] 28))
            clear HB25_
            have z_6 := hb.size
            (try simp only [World.size_alloc, World.size_setCell, World.size_drew, size_drewN] at z_6)
            have b97_ := hide (Box3.new (x := .int .i64 RV) (y := .int .i64 CV) (z := .slice A9 LV.length p9) w9 w9.heap.size 28 rfl)
            have u98_ := hide (ho |>.alloc (.cells #[.int .i64 RV, .int .i64 CV, .slice A9 LV.length p9] 28))
            clear hb ho c0_0 c0_1 c0_2
            have dL := DL.out
            obtain ⟨⟨c0_0, c0_1, c0_2⟩, _⟩ := b97_.out
            go_wp2
            go_returns
            exact ⟨rfl, HB96_.out⟩
          | true =>
            obtain ⟨N_, hr, hc, h6, hd, e1, e2⟩ := LV_.out rfl
            have c1 := C1.out
            have c2 := C2.out
            rw [e1] at c1
            rw [e2] at c2
            clear e1 e2 C1 C2
            subst hr
            subst hc
            obtain ⟨N, hN_⟩ : ∃ N, N = N_ := ⟨_, rfl⟩
            subst hN_
            have un := fun w => lawUnit N (by omega) w
            have hl0 := idTo_length N N
            have hl1 := nn_le (n := N) (by omega)
            have hl2 : (idTo N N).length ≤ 576 := by omega
            clear hl0 hl1
            generalize idTo N N = L0 at *
            have UN := hide un
            clear un
            have ab := fun w => lawAbs_at x1 1 (by rw [Hid, hd]; rfl) w (by omega) (by omega)
            have AB := hide ab
            have si := fun A p B q w (hA : SlI w A L0) (hB : SlI w B L0) => implSameMatrix N N N N A B p q L0 L0 w hA hB (by omega) (by omega)
            have ss := fun A p B q w (hA : SlI w A L0) (hB : SlI w B L0) => specSameMatrix N N N N A B p q L0 L0 w hA hB (by omega) (by omega)
            rw [show sameB N N L0 N N L0 = true from same_mk] at si ss
            have SI := hide si
            have SS := hide ss
            clear ab si ss hd
            have C1 : Hid (∀ A p B q w, Sl w A us.length p us → Sl w B LV.length q LV → Calls Try.prog 27 #[mv N N (.slice A us.length p), mv RV CV (.slice B LV.length q)] w (RetMat w N N L0 true)) := c1
            have C2 : Hid (∀ A p B q w, Sl w A LV.length p LV → Sl w B us.length q us → Calls Try.prog 27 #[mv RV CV (.slice A LV.length p), mv N N (.slice B us.length q)] w (RetMat w N N L0 true)) := c2
            clear c1 c2
            obtain ⟨⟨c0_0, c0_1, c0_2⟩, _⟩ := b21_.out
            go_wp2_with fail
            refine (IV.out _ _ _ (Own.sl2 u22_.out)).mono ?_; rintro e w9 ⟨s, rfl, ho, hb⟩
            obtain ⟨A9, p9, rfl, _⟩ := Own.sl ho
            have b99_ := hide (b21_.out.call hb |>.alloc (.cells #[.int .i64 RV, .int .i64 CV, .slice A9 LV.length p9] 28))
            clear b21_
            have u100_ := hide (Own.below u22_.out hb |>.alloc (.cells #[.int .i64 RV, .int .i64 CV, .slice A9 LV.length p9] 28))
            clear u22_
            have HB101_ := hide ((kb_call HB25_.out (Nat.le_refl _) hb).alloc (by have := HB25_.out.size; have := hb.size; omega) (.cells #[.int .i64 RV, .int .i64 CV, .slice A9 LV.length p9] 28))
            clear HB25_
            have z_6 := hb.size
            (try simp only [World.size_alloc, World.size_setCell, World.size_drew, size_drewN] at z_6)
            have b102_ := hide (Box3.new (x := .int .i64 RV) (y := .int .i64 CV) (z := .slice A9 LV.length p9) w9 w9.heap.size 28 rfl)
            have u103_ := hide (ho |>.alloc (.cells #[.int .i64 RV, .int .i64 CV, .slice A9 LV.length p9] 28))
            clear hb ho c0_0 c0_1 c0_2
            obtain ⟨⟨c0_0, c0_1, c0_2⟩, _⟩ := b99_.out
            obtain ⟨⟨c1_0, c1_1, c1_2⟩, _⟩ := b102_.out
            go_wp2_with fail
            refine (C1.out _ _ _ _ _ (Own.sl2 u100_.out) (Own.sl2 u103_.out)).mono ?_; rintro e w11 ⟨s, rfl, ho, hb⟩
            obtain ⟨A11, p11, rfl, _⟩ := Own.sl ho
            have b104_ := hide (b99_.out.call hb |>.alloc (.cells #[.int .i64 N, .int .i64 N, .slice A11 L0.length p11] 28))
            clear b99_
            have u105_ := hide (Own.below u100_.out hb |>.alloc (.cells #[.int .i64 N, .int .i64 N, .slice A11 L0.length p11] 28))
            clear u100_
            have b106_ := hide (b102_.out.call hb |>.alloc (.cells #[.int .i64 N, .int .i64 N, .slice A11 L0.length p11] 28))
            clear b102_
            have u107_ := hide (Own.below u103_.out hb |>.alloc (.cells #[.int .i64 N, .int .i64 N, .slice A11 L0.length p11] 28))
            clear u103_
            have HB108_ := hide ((kb_call HB101_.out (Nat.le_refl _) hb).alloc (by have := HB101_.out.size; have := hb.size; omega) (.cells #[.int .i64 N, .int .i64 N, .slice A11 L0.length p11] 28))
            clear HB101_
            have z_7 := hb.size
            (try simp only [World.size_alloc, World.size_setCell, World.size_drew, size_drewN] at z_7)
            have b109_ := hide (Box3.new (x := .int .i64 N) (y := .int .i64 N) (z := .slice A11 L0.length p11) w11 w11.heap.size 28 rfl)
            have u110_ := hide (ho |>.alloc (.cells #[.int .i64 N, .int .i64 N, .slice A11 L0.length p11] 28))
            clear hb ho c0_0 c0_1 c0_2 c1_0 c1_1 c1_2
            obtain ⟨⟨c0_0, c0_1, c0_2⟩, _⟩ := b106_.out
            obtain ⟨⟨c1_0, c1_1, c1_2⟩, _⟩ := b104_.out
            go_wp2_with fail
            refine (C2.out _ _ _ _ _ (Own.sl2 u107_.out) (Own.sl2 u105_.out)).mono ?_; rintro e w13 ⟨s, rfl, ho, hb⟩
            obtain ⟨A13, p13, rfl, _⟩ := Own.sl ho
            have b111_ := hide (b104_.out.call hb |>.alloc (.cells #[.int .i64 N, .int .i64 N, .slice A13 L0.length p13] 28))
            clear b104_
            have u112_ := hide (Own.below u105_.out hb |>.alloc (.cells #[.int .i64 N, .int .i64 N, .slice A13 L0.length p13] 28))
            clear u105_
            have b113_ := hide (b106_.out.call hb |>.alloc (.cells #[.int .i64 N, .int .i64 N, .slice A13 L0.length p13] 28))
            clear b106_
            have u114_ := hide (Own.below u107_.out hb |>.alloc (.cells #[.int .i64 N, .int .i64 N, .slice A13 L0.length p13] 28))
            clear u107_
            have b115_ := hide (b109_.out.call hb |>.alloc (.cells #[.int .i64 N, .int .i64 N, .slice A13 L0.length p13] 28))
            clear b109_
            have u116_ := hide (Own.below u110_.out hb |>.alloc (.cells #[.int .i64 N, .int .i64 N, .slice A13 L0.length p13] 28))
            clear u110_
            have HB117_ := hide ((kb_call HB108_.out (Nat.le_refl _) hb).alloc (by have := HB108_.out.size; have := hb.size; omega) (.cells #[.int .i64 N, .int .i64 N, .slice A13 L0.length p13] 28))
            clear HB108_
            have z_8 := hb.size
            (try simp only [World.size_alloc, World.size_setCell, World.size_drew, size_drewN] at z_8)
            have b118_ := hide (Box3.new (x := .int .i64 N) (y := .int .i64 N) (z := .slice A13 L0.length p13) w13 w13.heap.size 28 rfl)
            have u119_ := hide (ho |>.alloc (.cells #[.int .i64 N, .int .i64 N, .slice A13 L0.length p13] 28))
            clear hb ho c0_0 c0_1 c0_2 c1_0 c1_1 c1_2
            clear b113_
            clear u114_
            go_wp2_with fail
            obtain ⟨W, hW_⟩ : ∃ W_, w13.alloc (.cells #[.int .i64 N, .int .i64 N, .slice A13 L0.length p13] 28) = W_ := ⟨_, rfl⟩
            rw [hW_]
            have t_ := b111_.out
            rw [hW_] at t_
            have b120_ := hide t_
            clear b111_ t_
            have t_ := u112_.out
            rw [hW_] at t_
            have u121_ := hide t_
            clear u112_ t_
            have t_ := b115_.out
            rw [hW_] at t_
            have b122_ := hide t_
            clear b115_ t_
            have t_ := u116_.out
            rw [hW_] at t_
            have u123_ := hide t_
            clear u116_ t_
            have t_ := b118_.out
            rw [hW_] at t_
            have b124_ := hide t_
            clear b118_ t_
            have t_ := u119_.out
            rw [hW_] at t_
            have u125_ := hide t_
            clear u119_ t_
            have t_ := HB117_.out
            rw [hW_] at t_
            have HB126_ := hide t_
            clear HB117_ t_ hW_
            have KS : Hid (∀ w', Below W.heap.size W w' → w'.cell? ⟨w11.heap.size, 0, none⟩ = some (.int .i64 N) ∧ w'.cell? ⟨w11.heap.size, 1, none⟩ = some (.int .i64 N) ∧ w'.cell? ⟨w11.heap.size, 2, none⟩ = some (.slice A11 L0.length p11) ∧ w'.cell? ⟨w13.heap.size, 0, none⟩ = some (.int .i64 N) ∧ w'.cell? ⟨w13.heap.size, 1, none⟩ = some (.int .i64 N) ∧ w'.cell? ⟨w13.heap.size, 2, none⟩ = some (.slice A13 L0.length p13) ∧ w'.cell? ⟨w1.heap.size, 0, none⟩ = some (.int .i64 N) ∧ Below W.heap.size W w') := fun w' h => by
              obtain ⟨⟨x0, x1, x2⟩, _⟩ := b122_.out.call h
              obtain ⟨⟨y0, y1, y2⟩, _⟩ := b124_.out.call h
              obtain ⟨⟨a0, a1, a2⟩, _⟩ := b120_.out.call h
              exact ⟨x0, x1, x2, y0, y1, y2, a0, h⟩
            have XR := hide (Own.reads u123_.out).2
            have YR := hide (Own.reads u125_.out).2
            go_region_held3 (fun w' => w'.cell? ⟨w11.heap.size, 0, none⟩ = some (.int .i64 N) ∧ w'.cell? ⟨w11.heap.size, 1, none⟩ = some (.int .i64 N) ∧ w'.cell? ⟨w11.heap.size, 2, none⟩ = some (.slice A11 L0.length p11) ∧ w'.cell? ⟨w13.heap.size, 0, none⟩ = some (.int .i64 N) ∧ w'.cell? ⟨w13.heap.size, 1, none⟩ = some (.int .i64 N) ∧ w'.cell? ⟨w13.heap.size, 2, none⟩ = some (.slice A13 L0.length p13) ∧ w'.cell? ⟨w1.heap.size, 0, none⟩ = some (.int .i64 N) ∧ Below W.heap.size W w')
              (first
                | (with_reducible assumption)
                | (with_reducible exact KS.out _ (Below.drew (Below.refl _ _)))
                | (have hh := (‹_ ∧ _ ∧ _ ∧ _ ∧ _ ∧ _ ∧ _ ∧ Below W.heap.size W _›).2.2.2.2.2.2.2; with_reducible exact KS.out _ (kb_call hh (Nat.le_refl _) hb)))
              (first
                | (go_at_call 38; (with_reducible refine (AB.out _).mono ?_); rintro e w14 ⟨rfl, rfl⟩)
                | (go_at_call 36; (with_reducible refine (UN.out _).mono ?_); rintro e w15 ⟨s9, rfl, ho, hb⟩; obtain ⟨A15, p15, rfl, _⟩ := Own.sl ho; have HU := hide (Own.reads ho).2; clear ho)
                | (go_at_call 37; have hh := (‹_ ∧ _ ∧ _ ∧ _ ∧ _ ∧ _ ∧ _ ∧ Below W.heap.size W _›).2.2.2.2.2.2.2; (with_reducible refine (SI.out _ _ _ _ _ (SlI.below XR.out hh) HU.out).mono ?_); rintro e w16 ⟨rfl, hb⟩; clear hh)
                | (go_at_call 39; have hh := (‹_ ∧ _ ∧ _ ∧ _ ∧ _ ∧ _ ∧ _ ∧ Below W.heap.size W _›).2.2.2.2.2.2.2; (with_reducible refine (SS.out _ _ _ _ _ (SlI.below YR.out hh) HU.out).mono ?_); rintro e w17 ⟨rfl, hb⟩; clear hh))
            have hh := (‹_ ∧ _ ∧ _ ∧ _ ∧ _ ∧ _ ∧ _ ∧ Below W.heap.size W _›).2.2.2.2.2.2.2
            have HE := hide (kb_call HB126_.out (Nat.le_refl _) hh)
            clear hh KS
            go_wp2
            go_returns
            exact ⟨rfl, HE.out⟩
        | true =>
          obtain ⟨N, rfl, h6_, hsc⟩ := LAW.out rfl rfl rfl
          clear LAW
          obtain ⟨Wm, hWm⟩ : ∃ Wm, scRes N N (idTo N N) x1 = Wm := ⟨_, rfl⟩
          have lw := hsc Wm hWm
          have lW : Wm.L.length ≤ 1048576 := by rw [← hWm]; exact ScaleMatrix_len
          have un := fun w => lawUnit N (by omega) w
          have hl0 := idTo_length N N
          have hl1 := nn_le (n := N) (by omega)
          obtain ⟨L0, hL0_⟩ : ∃ L0, idTo N N = L0 := ⟨_, rfl⟩
          have hl2 : L0.length ≤ 576 := by rw [← hL0_]; omega
          clear hl0 hl1
          rw [hL0_] at un hWm
          have sc := fun A p w (hA : Sl w A L0.length p L0) => implScale N N x1 A p L0 w hA (by omega)
          rw [hWm] at sc
          have sw := fun A p B q w (hA : SlI w A LP) (hB : SlI w B Wm.L) => implSameMatrix RP CP Wm.R Wm.C A B p q LP Wm.L w hA hB lP lW
          clear hWm hsc
          obtain ⟨RW, CW, LW, kW⟩ := Wm
          simp only at lw lW sw
          have UN := hide un
          have SC : Hid (∀ A p w, Sl w A L0.length p L0 → Calls Try.prog 35 #[mv N N (.slice A L0.length p), .int .i64 x1] w (RetMat w RW CW LW kW)) := sc
          have SW := hide sw
          have LWL := hide lw
          clear un sc sw lw
          obtain ⟨⟨c0_0, c0_1, c0_2⟩, _⟩ := b21_.out
          go_wp2_with fail
          refine (UN.out _).mono ?_; rintro e w8a ⟨s, rfl, ho, hb⟩
          obtain ⟨A8, p8, rfl, _⟩ := Own.sl ho
          have b127_ := hide (b21_.out.call hb)
          clear b21_
          have u128_ := hide (Own.below u22_.out hb)
          clear u22_
          have b129_ := hide (b26_.out.call hb)
          clear b26_
          have u130_ := hide (Own.below u27_.out hb)
          clear u27_
          have HB131_ := hide (kb_call HB25_.out (Nat.le_refl _) hb)
          clear HB25_
          have z_6 := hb.size
          (try simp only [World.size_alloc, World.size_setCell, World.size_drew, size_drewN] at z_6)
          have u132_ := hide (ho)
          clear hb ho c0_0 c0_1 c0_2
          go_wp2_with fail
          refine (SC.out _ _ _ (Own.sl2 u132_.out)).mono ?_; rintro e w8 ⟨s, rfl, ho, hb⟩
          obtain ⟨A8b, p8b, rfl, _⟩ := Own.sl ho
          have b133_ := hide (b127_.out.call hb |>.alloc (.cells #[.int .i64 RW, .int .i64 CW, .slice A8b LW.length p8b] 28))
          clear b127_
          have u134_ := hide (Own.below u128_.out hb |>.alloc (.cells #[.int .i64 RW, .int .i64 CW, .slice A8b LW.length p8b] 28))
          clear u128_
          have b135_ := hide (b129_.out.call hb |>.alloc (.cells #[.int .i64 RW, .int .i64 CW, .slice A8b LW.length p8b] 28))
          clear b129_
          have u136_ := hide (Own.below u130_.out hb |>.alloc (.cells #[.int .i64 RW, .int .i64 CW, .slice A8b LW.length p8b] 28))
          clear u130_
          have u137_ := hide (Own.below u132_.out hb |>.alloc (.cells #[.int .i64 RW, .int .i64 CW, .slice A8b LW.length p8b] 28))
          clear u132_
          have HB138_ := hide ((kb_call HB131_.out (Nat.le_refl _) hb).alloc (by have := HB131_.out.size; have := hb.size; omega) (.cells #[.int .i64 RW, .int .i64 CW, .slice A8b LW.length p8b] 28))
          clear HB131_
          have z_7 := hb.size
          (try simp only [World.size_alloc, World.size_setCell, World.size_drew, size_drewN] at z_7)
          have b139_ := hide (Box3.new (x := .int .i64 RW) (y := .int .i64 CW) (z := .slice A8b LW.length p8b) w8 w8.heap.size 28 rfl)
          have u140_ := hide (ho |>.alloc (.cells #[.int .i64 RW, .int .i64 CW, .slice A8b LW.length p8b] 28))
          clear hb ho
          clear u137_
          cases kW with
          | false =>
            clear b139_
            clear u140_
            clear b135_
            clear u136_
            cases kV with
            | false =>
              have dL : ((LV.length : Int) == 0) = true := by rw [LN.out rfl]; rfl
              have DL := hide dL
              clear dL
              obtain ⟨⟨c0_0, c0_1, c0_2⟩, _⟩ := b133_.out
              go_wp2_with fail
              refine (IV.out _ _ _ (Own.sl2 u134_.out)).mono ?_; rintro e w9 ⟨s, rfl, ho, hb⟩
              obtain ⟨A9, p9, rfl, _⟩ := Own.sl ho
              have b141_ := hide (b133_.out.call hb |>.alloc (.cells #[.int .i64 RV, .int .i64 CV, .slice A9 LV.length p9] 28))
              clear b133_
              have u142_ := hide (Own.below u134_.out hb |>.alloc (.cells #[.int .i64 RV, .int .i64 CV, .slice A9 LV.length p9] 28))
              clear u134_
              have HB143_ := hide ((kb_call HB138_.out (Nat.le_refl _) hb).alloc (by have := HB138_.out.size; have := hb.size; omega) (.cells #[.int .i64 RV, .int .i64 CV, .slice A9 LV.length p9] 28))
              clear HB138_
              have z_8 := hb.size
              (try simp only [World.size_alloc, World.size_setCell, World.size_drew, size_drewN] at z_8)
              have b144_ := hide (Box3.new (x := .int .i64 RV) (y := .int .i64 CV) (z := .slice A9 LV.length p9) w9 w9.heap.size 28 rfl)
              have u145_ := hide (ho |>.alloc (.cells #[.int .i64 RV, .int .i64 CV, .slice A9 LV.length p9] 28))
              clear hb ho c0_0 c0_1 c0_2
              have dL := DL.out
              obtain ⟨⟨c0_0, c0_1, c0_2⟩, _⟩ := b144_.out
              go_wp2
              go_returns
              exact ⟨rfl, HB143_.out⟩
            | true =>
              obtain ⟨N_, hr, hc, h6, hd, e1, e2⟩ := LV_.out rfl
              have c1 := C1.out
              have c2 := C2.out
              rw [e1] at c1
              rw [e2] at c2
              clear e1 e2 C1 C2
              obtain rfl : N = N_ := by omega
              clear hr
              subst hc
              rw [hL0_] at c1 c2
              clear hL0_
              have ab := fun w => lawAbs_at x1 1 (by rw [Hid, hd]; rfl) w (by omega) (by omega)
              have AB := hide ab
              have si := fun A p B q w (hA : SlI w A L0) (hB : SlI w B L0) => implSameMatrix N N N N A B p q L0 L0 w hA hB (by omega) (by omega)
              have ss := fun A p B q w (hA : SlI w A L0) (hB : SlI w B L0) => specSameMatrix N N N N A B p q L0 L0 w hA hB (by omega) (by omega)
              rw [show sameB N N L0 N N L0 = true from same_mk] at si ss
              have SI := hide si
              have SS := hide ss
              clear ab si ss hd
              have C1 : Hid (∀ A p B q w, Sl w A us.length p us → Sl w B LV.length q LV → Calls Try.prog 27 #[mv N N (.slice A us.length p), mv RV CV (.slice B LV.length q)] w (RetMat w N N L0 true)) := c1
              have C2 : Hid (∀ A p B q w, Sl w A LV.length p LV → Sl w B us.length q us → Calls Try.prog 27 #[mv RV CV (.slice A LV.length p), mv N N (.slice B us.length q)] w (RetMat w N N L0 true)) := c2
              clear c1 c2
              obtain ⟨⟨c0_0, c0_1, c0_2⟩, _⟩ := b133_.out
              go_wp2_with fail
              refine (IV.out _ _ _ (Own.sl2 u134_.out)).mono ?_; rintro e w9 ⟨s, rfl, ho, hb⟩
              obtain ⟨A9, p9, rfl, _⟩ := Own.sl ho
              have b146_ := hide (b133_.out.call hb |>.alloc (.cells #[.int .i64 RV, .int .i64 CV, .slice A9 LV.length p9] 28))
              clear b133_
              have u147_ := hide (Own.below u134_.out hb |>.alloc (.cells #[.int .i64 RV, .int .i64 CV, .slice A9 LV.length p9] 28))
              clear u134_
              have HB148_ := hide ((kb_call HB138_.out (Nat.le_refl _) hb).alloc (by have := HB138_.out.size; have := hb.size; omega) (.cells #[.int .i64 RV, .int .i64 CV, .slice A9 LV.length p9] 28))
              clear HB138_
              have z_8 := hb.size
              (try simp only [World.size_alloc, World.size_setCell, World.size_drew, size_drewN] at z_8)
              have b149_ := hide (Box3.new (x := .int .i64 RV) (y := .int .i64 CV) (z := .slice A9 LV.length p9) w9 w9.heap.size 28 rfl)
              have u150_ := hide (ho |>.alloc (.cells #[.int .i64 RV, .int .i64 CV, .slice A9 LV.length p9] 28))
              clear hb ho c0_0 c0_1 c0_2
              obtain ⟨⟨c0_0, c0_1, c0_2⟩, _⟩ := b146_.out
              obtain ⟨⟨c1_0, c1_1, c1_2⟩, _⟩ := b149_.out
              go_wp2_with fail
              refine (C1.out _ _ _ _ _ (Own.sl2 u147_.out) (Own.sl2 u150_.out)).mono ?_; rintro e w11 ⟨s, rfl, ho, hb⟩
              obtain ⟨A11, p11, rfl, _⟩ := Own.sl ho
              have b151_ := hide (b146_.out.call hb |>.alloc (.cells #[.int .i64 N, .int .i64 N, .slice A11 L0.length p11] 28))
              clear b146_
              have u152_ := hide (Own.below u147_.out hb |>.alloc (.cells #[.int .i64 N, .int .i64 N, .slice A11 L0.length p11] 28))
              clear u147_
              have b153_ := hide (b149_.out.call hb |>.alloc (.cells #[.int .i64 N, .int .i64 N, .slice A11 L0.length p11] 28))
              clear b149_
              have u154_ := hide (Own.below u150_.out hb |>.alloc (.cells #[.int .i64 N, .int .i64 N, .slice A11 L0.length p11] 28))
              clear u150_
              have HB155_ := hide ((kb_call HB148_.out (Nat.le_refl _) hb).alloc (by have := HB148_.out.size; have := hb.size; omega) (.cells #[.int .i64 N, .int .i64 N, .slice A11 L0.length p11] 28))
              clear HB148_
              have z_9 := hb.size
              (try simp only [World.size_alloc, World.size_setCell, World.size_drew, size_drewN] at z_9)
              have b156_ := hide (Box3.new (x := .int .i64 N) (y := .int .i64 N) (z := .slice A11 L0.length p11) w11 w11.heap.size 28 rfl)
              have u157_ := hide (ho |>.alloc (.cells #[.int .i64 N, .int .i64 N, .slice A11 L0.length p11] 28))
              clear hb ho c0_0 c0_1 c0_2 c1_0 c1_1 c1_2
              obtain ⟨⟨c0_0, c0_1, c0_2⟩, _⟩ := b153_.out
              obtain ⟨⟨c1_0, c1_1, c1_2⟩, _⟩ := b151_.out
              go_wp2_with fail
              refine (C2.out _ _ _ _ _ (Own.sl2 u154_.out) (Own.sl2 u152_.out)).mono ?_; rintro e w13 ⟨s, rfl, ho, hb⟩
              obtain ⟨A13, p13, rfl, _⟩ := Own.sl ho
              have b158_ := hide (b151_.out.call hb |>.alloc (.cells #[.int .i64 N, .int .i64 N, .slice A13 L0.length p13] 28))
              clear b151_
              have u159_ := hide (Own.below u152_.out hb |>.alloc (.cells #[.int .i64 N, .int .i64 N, .slice A13 L0.length p13] 28))
              clear u152_
              have b160_ := hide (b153_.out.call hb |>.alloc (.cells #[.int .i64 N, .int .i64 N, .slice A13 L0.length p13] 28))
              clear b153_
              have u161_ := hide (Own.below u154_.out hb |>.alloc (.cells #[.int .i64 N, .int .i64 N, .slice A13 L0.length p13] 28))
              clear u154_
              have b162_ := hide (b156_.out.call hb |>.alloc (.cells #[.int .i64 N, .int .i64 N, .slice A13 L0.length p13] 28))
              clear b156_
              have u163_ := hide (Own.below u157_.out hb |>.alloc (.cells #[.int .i64 N, .int .i64 N, .slice A13 L0.length p13] 28))
              clear u157_
              have HB164_ := hide ((kb_call HB155_.out (Nat.le_refl _) hb).alloc (by have := HB155_.out.size; have := hb.size; omega) (.cells #[.int .i64 N, .int .i64 N, .slice A13 L0.length p13] 28))
              clear HB155_
              have z_10 := hb.size
              (try simp only [World.size_alloc, World.size_setCell, World.size_drew, size_drewN] at z_10)
              have b165_ := hide (Box3.new (x := .int .i64 N) (y := .int .i64 N) (z := .slice A13 L0.length p13) w13 w13.heap.size 28 rfl)
              have u166_ := hide (ho |>.alloc (.cells #[.int .i64 N, .int .i64 N, .slice A13 L0.length p13] 28))
              clear hb ho c0_0 c0_1 c0_2 c1_0 c1_1 c1_2
              clear b160_
              clear u161_
              go_wp2_with fail
              obtain ⟨W, hW_⟩ : ∃ W_, w13.alloc (.cells #[.int .i64 N, .int .i64 N, .slice A13 L0.length p13] 28) = W_ := ⟨_, rfl⟩
              rw [hW_]
              have t_ := b158_.out
              rw [hW_] at t_
              have b167_ := hide t_
              clear b158_ t_
              have t_ := u159_.out
              rw [hW_] at t_
              have u168_ := hide t_
              clear u159_ t_
              have t_ := b162_.out
              rw [hW_] at t_
              have b169_ := hide t_
              clear b162_ t_
              have t_ := u163_.out
              rw [hW_] at t_
              have u170_ := hide t_
              clear u163_ t_
              have t_ := b165_.out
              rw [hW_] at t_
              have b171_ := hide t_
              clear b165_ t_
              have t_ := u166_.out
              rw [hW_] at t_
              have u172_ := hide t_
              clear u166_ t_
              have t_ := HB164_.out
              rw [hW_] at t_
              have HB173_ := hide t_
              clear HB164_ t_ hW_
              have KS : Hid (∀ w', Below W.heap.size W w' → w'.cell? ⟨w11.heap.size, 0, none⟩ = some (.int .i64 N) ∧ w'.cell? ⟨w11.heap.size, 1, none⟩ = some (.int .i64 N) ∧ w'.cell? ⟨w11.heap.size, 2, none⟩ = some (.slice A11 L0.length p11) ∧ w'.cell? ⟨w13.heap.size, 0, none⟩ = some (.int .i64 N) ∧ w'.cell? ⟨w13.heap.size, 1, none⟩ = some (.int .i64 N) ∧ w'.cell? ⟨w13.heap.size, 2, none⟩ = some (.slice A13 L0.length p13) ∧ w'.cell? ⟨w1.heap.size, 0, none⟩ = some (.int .i64 N) ∧ Below W.heap.size W w') := fun w' h => by
                obtain ⟨⟨x0, x1, x2⟩, _⟩ := b169_.out.call h
                obtain ⟨⟨y0, y1, y2⟩, _⟩ := b171_.out.call h
                obtain ⟨⟨a0, a1, a2⟩, _⟩ := b167_.out.call h
                exact ⟨x0, x1, x2, y0, y1, y2, a0, h⟩
              have XR := hide (Own.reads u170_.out).2
              have YR := hide (Own.reads u172_.out).2
              go_region_held3 (fun w' => w'.cell? ⟨w11.heap.size, 0, none⟩ = some (.int .i64 N) ∧ w'.cell? ⟨w11.heap.size, 1, none⟩ = some (.int .i64 N) ∧ w'.cell? ⟨w11.heap.size, 2, none⟩ = some (.slice A11 L0.length p11) ∧ w'.cell? ⟨w13.heap.size, 0, none⟩ = some (.int .i64 N) ∧ w'.cell? ⟨w13.heap.size, 1, none⟩ = some (.int .i64 N) ∧ w'.cell? ⟨w13.heap.size, 2, none⟩ = some (.slice A13 L0.length p13) ∧ w'.cell? ⟨w1.heap.size, 0, none⟩ = some (.int .i64 N) ∧ Below W.heap.size W w')
                (first
                  | (with_reducible assumption)
                  | (with_reducible exact KS.out _ (Below.drew (Below.refl _ _)))
                  | (have hh := (‹_ ∧ _ ∧ _ ∧ _ ∧ _ ∧ _ ∧ _ ∧ Below W.heap.size W _›).2.2.2.2.2.2.2; with_reducible exact KS.out _ (kb_call hh (Nat.le_refl _) hb)))
                (first
                  | (go_at_call 38; (with_reducible refine (AB.out _).mono ?_); rintro e w14 ⟨rfl, rfl⟩)
                  | (go_at_call 36; (with_reducible refine (UN.out _).mono ?_); rintro e w15 ⟨s9, rfl, ho, hb⟩; obtain ⟨A15, p15, rfl, _⟩ := Own.sl ho; have HU := hide (Own.reads ho).2; clear ho)
                  | (go_at_call 37; have hh := (‹_ ∧ _ ∧ _ ∧ _ ∧ _ ∧ _ ∧ _ ∧ Below W.heap.size W _›).2.2.2.2.2.2.2; (with_reducible refine (SI.out _ _ _ _ _ (SlI.below XR.out hh) HU.out).mono ?_); rintro e w16 ⟨rfl, hb⟩; clear hh)
                  | (go_at_call 39; have hh := (‹_ ∧ _ ∧ _ ∧ _ ∧ _ ∧ _ ∧ _ ∧ Below W.heap.size W _›).2.2.2.2.2.2.2; (with_reducible refine (SS.out _ _ _ _ _ (SlI.below YR.out hh) HU.out).mono ?_); rintro e w17 ⟨rfl, hb⟩; clear hh))
              have hh := (‹_ ∧ _ ∧ _ ∧ _ ∧ _ ∧ _ ∧ _ ∧ Below W.heap.size W _›).2.2.2.2.2.2.2
              have HE := hide (kb_call HB173_.out (Nat.le_refl _) hh)
              clear hh KS
              go_wp2
              go_returns
              exact ⟨rfl, HE.out⟩
          | true =>
            have sw := SW.out
            rw [LWL.out rfl] at sw
            have SW' := hide sw
            clear sw SW LWL
            obtain ⟨⟨c0_0, c0_1, c0_2⟩, _⟩ := b135_.out
            obtain ⟨⟨c1_0, c1_1, c1_2⟩, _⟩ := b139_.out
            go_wp2_with fail
            refine (SW'.out _ _ _ _ _ (Own.reads u136_.out).2 (Own.reads u140_.out).2).mono ?_; rintro e w8c ⟨rfl, hb⟩
            have b174_ := hide (b133_.out.call hb)
            clear b133_
            have u175_ := hide (Own.below u134_.out hb)
            clear u134_
            have b176_ := hide (b135_.out.call hb)
            clear b135_
            have u177_ := hide (Own.below u136_.out hb)
            clear u136_
            have b178_ := hide (b139_.out.call hb)
            clear b139_
            have u179_ := hide (Own.below u140_.out hb)
            clear u140_
            have HB180_ := hide (kb_call HB138_.out (Nat.le_refl _) hb)
            clear HB138_
            have z_8 := hb.size
            (try simp only [World.size_alloc, World.size_setCell, World.size_drew, size_drewN] at z_8)
            clear hb c0_0 c0_1 c0_2 c1_0 c1_1 c1_2
            clear b178_
            clear u179_
            clear b176_
            clear u177_
            cases kV with
            | false =>
              have dL : ((LV.length : Int) == 0) = true := by rw [LN.out rfl]; rfl
              have DL := hide dL
              clear dL
              obtain ⟨⟨c0_0, c0_1, c0_2⟩, _⟩ := b174_.out
              go_wp2_with fail
              refine (IV.out _ _ _ (Own.sl2 u175_.out)).mono ?_; rintro e w9 ⟨s, rfl, ho, hb⟩
              obtain ⟨A9, p9, rfl, _⟩ := Own.sl ho
              have b181_ := hide (b174_.out.call hb |>.alloc (.cells #[.int .i64 RV, .int .i64 CV, .slice A9 LV.length p9] 28))
              clear b174_
              have u182_ := hide (Own.below u175_.out hb |>.alloc (.cells #[.int .i64 RV, .int .i64 CV, .slice A9 LV.length p9] 28))
              clear u175_
              have HB183_ := hide ((kb_call HB180_.out (Nat.le_refl _) hb).alloc (by have := HB180_.out.size; have := hb.size; omega) (.cells #[.int .i64 RV, .int .i64 CV, .slice A9 LV.length p9] 28))
              clear HB180_
              have z_9 := hb.size
              (try simp only [World.size_alloc, World.size_setCell, World.size_drew, size_drewN] at z_9)
              have b184_ := hide (Box3.new (x := .int .i64 RV) (y := .int .i64 CV) (z := .slice A9 LV.length p9) w9 w9.heap.size 28 rfl)
              have u185_ := hide (ho |>.alloc (.cells #[.int .i64 RV, .int .i64 CV, .slice A9 LV.length p9] 28))
              clear hb ho c0_0 c0_1 c0_2
              have dL := DL.out
              obtain ⟨⟨c0_0, c0_1, c0_2⟩, _⟩ := b184_.out
              go_wp2
              go_returns
              exact ⟨rfl, HB183_.out⟩
            | true =>
              obtain ⟨N_, hr, hc, h6, hd, e1, e2⟩ := LV_.out rfl
              have c1 := C1.out
              have c2 := C2.out
              rw [e1] at c1
              rw [e2] at c2
              clear e1 e2 C1 C2
              obtain rfl : N = N_ := by omega
              clear hr
              subst hc
              rw [hL0_] at c1 c2
              clear hL0_
              have ab := fun w => lawAbs_at x1 1 (by rw [Hid, hd]; rfl) w (by omega) (by omega)
              have AB := hide ab
              have si := fun A p B q w (hA : SlI w A L0) (hB : SlI w B L0) => implSameMatrix N N N N A B p q L0 L0 w hA hB (by omega) (by omega)
              have ss := fun A p B q w (hA : SlI w A L0) (hB : SlI w B L0) => specSameMatrix N N N N A B p q L0 L0 w hA hB (by omega) (by omega)
              rw [show sameB N N L0 N N L0 = true from same_mk] at si ss
              have SI := hide si
              have SS := hide ss
              clear ab si ss hd
              have C1 : Hid (∀ A p B q w, Sl w A us.length p us → Sl w B LV.length q LV → Calls Try.prog 27 #[mv N N (.slice A us.length p), mv RV CV (.slice B LV.length q)] w (RetMat w N N L0 true)) := c1
              have C2 : Hid (∀ A p B q w, Sl w A LV.length p LV → Sl w B us.length q us → Calls Try.prog 27 #[mv RV CV (.slice A LV.length p), mv N N (.slice B us.length q)] w (RetMat w N N L0 true)) := c2
              clear c1 c2
              obtain ⟨⟨c0_0, c0_1, c0_2⟩, _⟩ := b174_.out
              go_wp2_with fail
              refine (IV.out _ _ _ (Own.sl2 u175_.out)).mono ?_; rintro e w9 ⟨s, rfl, ho, hb⟩
              obtain ⟨A9, p9, rfl, _⟩ := Own.sl ho
              have b186_ := hide (b174_.out.call hb |>.alloc (.cells #[.int .i64 RV, .int .i64 CV, .slice A9 LV.length p9] 28))
              clear b174_
              have u187_ := hide (Own.below u175_.out hb |>.alloc (.cells #[.int .i64 RV, .int .i64 CV, .slice A9 LV.length p9] 28))
              clear u175_
              have HB188_ := hide ((kb_call HB180_.out (Nat.le_refl _) hb).alloc (by have := HB180_.out.size; have := hb.size; omega) (.cells #[.int .i64 RV, .int .i64 CV, .slice A9 LV.length p9] 28))
              clear HB180_
              have z_9 := hb.size
              (try simp only [World.size_alloc, World.size_setCell, World.size_drew, size_drewN] at z_9)
              have b189_ := hide (Box3.new (x := .int .i64 RV) (y := .int .i64 CV) (z := .slice A9 LV.length p9) w9 w9.heap.size 28 rfl)
              have u190_ := hide (ho |>.alloc (.cells #[.int .i64 RV, .int .i64 CV, .slice A9 LV.length p9] 28))
              clear hb ho c0_0 c0_1 c0_2
              obtain ⟨⟨c0_0, c0_1, c0_2⟩, _⟩ := b186_.out
              obtain ⟨⟨c1_0, c1_1, c1_2⟩, _⟩ := b189_.out
              go_wp2_with fail
              refine (C1.out _ _ _ _ _ (Own.sl2 u187_.out) (Own.sl2 u190_.out)).mono ?_; rintro e w11 ⟨s, rfl, ho, hb⟩
              obtain ⟨A11, p11, rfl, _⟩ := Own.sl ho
              have b191_ := hide (b186_.out.call hb |>.alloc (.cells #[.int .i64 N, .int .i64 N, .slice A11 L0.length p11] 28))
              clear b186_
              have u192_ := hide (Own.below u187_.out hb |>.alloc (.cells #[.int .i64 N, .int .i64 N, .slice A11 L0.length p11] 28))
              clear u187_
              have b193_ := hide (b189_.out.call hb |>.alloc (.cells #[.int .i64 N, .int .i64 N, .slice A11 L0.length p11] 28))
              clear b189_
              have u194_ := hide (Own.below u190_.out hb |>.alloc (.cells #[.int .i64 N, .int .i64 N, .slice A11 L0.length p11] 28))
              clear u190_
              have HB195_ := hide ((kb_call HB188_.out (Nat.le_refl _) hb).alloc (by have := HB188_.out.size; have := hb.size; omega) (.cells #[.int .i64 N, .int .i64 N, .slice A11 L0.length p11] 28))
              clear HB188_
              have z_10 := hb.size
              (try simp only [World.size_alloc, World.size_setCell, World.size_drew, size_drewN] at z_10)
              have b196_ := hide (Box3.new (x := .int .i64 N) (y := .int .i64 N) (z := .slice A11 L0.length p11) w11 w11.heap.size 28 rfl)
              have u197_ := hide (ho |>.alloc (.cells #[.int .i64 N, .int .i64 N, .slice A11 L0.length p11] 28))
              clear hb ho c0_0 c0_1 c0_2 c1_0 c1_1 c1_2
              obtain ⟨⟨c0_0, c0_1, c0_2⟩, _⟩ := b193_.out
              obtain ⟨⟨c1_0, c1_1, c1_2⟩, _⟩ := b191_.out
              go_wp2_with fail
              refine (C2.out _ _ _ _ _ (Own.sl2 u194_.out) (Own.sl2 u192_.out)).mono ?_; rintro e w13 ⟨s, rfl, ho, hb⟩
              obtain ⟨A13, p13, rfl, _⟩ := Own.sl ho
              have b198_ := hide (b191_.out.call hb |>.alloc (.cells #[.int .i64 N, .int .i64 N, .slice A13 L0.length p13] 28))
              clear b191_
              have u199_ := hide (Own.below u192_.out hb |>.alloc (.cells #[.int .i64 N, .int .i64 N, .slice A13 L0.length p13] 28))
              clear u192_
              have b200_ := hide (b193_.out.call hb |>.alloc (.cells #[.int .i64 N, .int .i64 N, .slice A13 L0.length p13] 28))
              clear b193_
              have u201_ := hide (Own.below u194_.out hb |>.alloc (.cells #[.int .i64 N, .int .i64 N, .slice A13 L0.length p13] 28))
              clear u194_
              have b202_ := hide (b196_.out.call hb |>.alloc (.cells #[.int .i64 N, .int .i64 N, .slice A13 L0.length p13] 28))
              clear b196_
              have u203_ := hide (Own.below u197_.out hb |>.alloc (.cells #[.int .i64 N, .int .i64 N, .slice A13 L0.length p13] 28))
              clear u197_
              have HB204_ := hide ((kb_call HB195_.out (Nat.le_refl _) hb).alloc (by have := HB195_.out.size; have := hb.size; omega) (.cells #[.int .i64 N, .int .i64 N, .slice A13 L0.length p13] 28))
              clear HB195_
              have z_11 := hb.size
              (try simp only [World.size_alloc, World.size_setCell, World.size_drew, size_drewN] at z_11)
              have b205_ := hide (Box3.new (x := .int .i64 N) (y := .int .i64 N) (z := .slice A13 L0.length p13) w13 w13.heap.size 28 rfl)
              have u206_ := hide (ho |>.alloc (.cells #[.int .i64 N, .int .i64 N, .slice A13 L0.length p13] 28))
              clear hb ho c0_0 c0_1 c0_2 c1_0 c1_1 c1_2
              clear b200_
              clear u201_
              go_wp2_with fail
              obtain ⟨W, hW_⟩ : ∃ W_, w13.alloc (.cells #[.int .i64 N, .int .i64 N, .slice A13 L0.length p13] 28) = W_ := ⟨_, rfl⟩
              rw [hW_]
              have t_ := b198_.out
              rw [hW_] at t_
              have b207_ := hide t_
              clear b198_ t_
              have t_ := u199_.out
              rw [hW_] at t_
              have u208_ := hide t_
              clear u199_ t_
              have t_ := b202_.out
              rw [hW_] at t_
              have b209_ := hide t_
              clear b202_ t_
              have t_ := u203_.out
              rw [hW_] at t_
              have u210_ := hide t_
              clear u203_ t_
              have t_ := b205_.out
              rw [hW_] at t_
              have b211_ := hide t_
              clear b205_ t_
              have t_ := u206_.out
              rw [hW_] at t_
              have u212_ := hide t_
              clear u206_ t_
              have t_ := HB204_.out
              rw [hW_] at t_
              have HB213_ := hide t_
              clear HB204_ t_ hW_
              have KS : Hid (∀ w', Below W.heap.size W w' → w'.cell? ⟨w11.heap.size, 0, none⟩ = some (.int .i64 N) ∧ w'.cell? ⟨w11.heap.size, 1, none⟩ = some (.int .i64 N) ∧ w'.cell? ⟨w11.heap.size, 2, none⟩ = some (.slice A11 L0.length p11) ∧ w'.cell? ⟨w13.heap.size, 0, none⟩ = some (.int .i64 N) ∧ w'.cell? ⟨w13.heap.size, 1, none⟩ = some (.int .i64 N) ∧ w'.cell? ⟨w13.heap.size, 2, none⟩ = some (.slice A13 L0.length p13) ∧ w'.cell? ⟨w1.heap.size, 0, none⟩ = some (.int .i64 N) ∧ Below W.heap.size W w') := fun w' h => by
                obtain ⟨⟨x0, x1, x2⟩, _⟩ := b209_.out.call h
                obtain ⟨⟨y0, y1, y2⟩, _⟩ := b211_.out.call h
                obtain ⟨⟨a0, a1, a2⟩, _⟩ := b207_.out.call h
                exact ⟨x0, x1, x2, y0, y1, y2, a0, h⟩
              have XR := hide (Own.reads u210_.out).2
              have YR := hide (Own.reads u212_.out).2
              go_region_held3 (fun w' => w'.cell? ⟨w11.heap.size, 0, none⟩ = some (.int .i64 N) ∧ w'.cell? ⟨w11.heap.size, 1, none⟩ = some (.int .i64 N) ∧ w'.cell? ⟨w11.heap.size, 2, none⟩ = some (.slice A11 L0.length p11) ∧ w'.cell? ⟨w13.heap.size, 0, none⟩ = some (.int .i64 N) ∧ w'.cell? ⟨w13.heap.size, 1, none⟩ = some (.int .i64 N) ∧ w'.cell? ⟨w13.heap.size, 2, none⟩ = some (.slice A13 L0.length p13) ∧ w'.cell? ⟨w1.heap.size, 0, none⟩ = some (.int .i64 N) ∧ Below W.heap.size W w')
                (first
                  | (with_reducible assumption)
                  | (with_reducible exact KS.out _ (Below.drew (Below.refl _ _)))
                  | (have hh := (‹_ ∧ _ ∧ _ ∧ _ ∧ _ ∧ _ ∧ _ ∧ Below W.heap.size W _›).2.2.2.2.2.2.2; with_reducible exact KS.out _ (kb_call hh (Nat.le_refl _) hb)))
                (first
                  | (go_at_call 38; (with_reducible refine (AB.out _).mono ?_); rintro e w14 ⟨rfl, rfl⟩)
                  | (go_at_call 36; (with_reducible refine (UN.out _).mono ?_); rintro e w15 ⟨s9, rfl, ho, hb⟩; obtain ⟨A15, p15, rfl, _⟩ := Own.sl ho; have HU := hide (Own.reads ho).2; clear ho)
                  | (go_at_call 37; have hh := (‹_ ∧ _ ∧ _ ∧ _ ∧ _ ∧ _ ∧ _ ∧ Below W.heap.size W _›).2.2.2.2.2.2.2; (with_reducible refine (SI.out _ _ _ _ _ (SlI.below XR.out hh) HU.out).mono ?_); rintro e w16 ⟨rfl, hb⟩; clear hh)
                  | (go_at_call 39; have hh := (‹_ ∧ _ ∧ _ ∧ _ ∧ _ ∧ _ ∧ _ ∧ Below W.heap.size W _›).2.2.2.2.2.2.2; (with_reducible refine (SS.out _ _ _ _ _ (SlI.below YR.out hh) HU.out).mono ?_); rintro e w17 ⟨rfl, hb⟩; clear hh))
              have hh := (‹_ ∧ _ ∧ _ ∧ _ ∧ _ ∧ _ ∧ _ ∧ Below W.heap.size W _›).2.2.2.2.2.2.2
              have HE := hide (kb_call HB213_.out (Nat.le_refl _) hh)
              clear hh KS
              go_wp2
              go_returns
              exact ⟨rfl, HE.out⟩
  · go_enter Try.func10, Try.ntmps10
    go_wp2_with fail
    refine (lawBig_yes A n cap _ (by omega) (by omega)).mono ?_; rintro e w0 ⟨rfl, rfl⟩
    go_wp2
    go_returns
    exact ⟨rfl, Below.refl _ _⟩
end Go.Proofs.Ytchlaebkigmfgaa
