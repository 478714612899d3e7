/- The draws of matrices: l3Draw. -/
import Derived.Test.YtchlaebkigmfgaaDrawW
import Derived.Test.YtchlaebkigmfgaaRes
import Derived.Test.YtchlaebkigmfgaaBox
import Derived.Test.YtchlaebkigmfgaaNewW
import Derived.Test.YtchlaebkigmfgaaAppW
import Derived.Test.YtchlaebkigmfgaaCrossL
import Derived.Deep.RegionWith
namespace Go.Proofs.Ytchlaebkigmfgaa
open Go.RowKit
set_option linter.unusedSimpArgs false
set_option linter.unusedVariables false

/-- What a draw of a matrix keeps: all below B but the cursor. -/
def KB (B : Nat) (W w : World) (p : Nat) : Prop := Cur w p ∧ W.heap.size ≤ w.heap.size ∧ w.os = W.os ∧ w.tape = W.tape ∧ w.output = W.output ∧ ∀ k, k < B → k ≠ p → w.heap[k]? = W.heap[k]?
namespace KB
variable {B : Nat} {W w w' : World} {p : Nat}
theorem start (h : Cur w p) : KB w.heap.size w w p := ⟨h, Nat.le_refl _, rfl, rfl, rfl, fun _ _ _ => rfl⟩
theorem startB (h : Cur w p) : KB B w w p := ⟨h, Nat.le_refl _, rfl, rfl, rfl, fun _ _ _ => rfl⟩
theorem size (h : KB B W w p) : W.heap.size ≤ w.heap.size := h.2.1
theorem kept (h : KB B W w p) (hB : B ≤ W.heap.size) (hk : Kept w w' p) : KB B W w' p :=
  ⟨hk.1, Nat.le_trans h.2.1 hk.2.size, hk.2.os.trans h.2.2.1, hk.2.tape.trans h.2.2.2.1, hk.2.output.trans h.2.2.2.2.1, fun k h1 hne => (hk.2.block k (by have := h.2.1; omega) (by simpa using hne)).trans (h.2.2.2.2.2 k h1 hne)⟩
theorem trans {B' : Nat} (h : KB B W w p) (hB : B ≤ B') (hk : KB B' w w' p) : KB B W w' p :=
  ⟨hk.1, Nat.le_trans h.2.1 hk.2.1, hk.2.2.1.trans h.2.2.1, hk.2.2.2.1.trans h.2.2.2.1, hk.2.2.2.2.1.trans h.2.2.2.2.1, fun k h1 hne => (hk.2.2.2.2.2 k (by omega) hne).trans (h.2.2.2.2.2 k h1 hne)⟩
theorem call (h : KB B W w p) (hB : B ≤ W.heap.size) (hb : Below w.heap.size w w') : KB B W w' p :=
  ⟨h.1.call hb, Nat.le_trans h.2.1 hb.size, hb.os.trans h.2.2.1, hb.tape.trans h.2.2.2.1, hb.output.trans h.2.2.2.2.1, fun k h1 hne => (hb.block k (by have := h.2.1; omega)).trans (h.2.2.2.2.2 k h1 hne)⟩
theorem alloc (h : KB B W w p) (hB : B ≤ W.heap.size) (o : Obj) : KB B W (w.alloc o) p := h.call hB ((Below.refl _ _).alloc (Nat.le_refl _) o)
theorem grown {g : Nat} (h : KB B W w p) (hB : B ≤ W.heap.size) (hg : w.grownBy w' (some g)) (hgB : B ≤ g) (hp : p < g) : KB B W w' p :=
  ⟨h.1.below ((Below.refl (p + 1) w).grown hg h.1.lt (fun k hk => by cases hk; exact hp)), Nat.le_trans h.2.1 hg.size, hg.os.trans h.2.2.1, hg.tape.trans h.2.2.2.1, hg.output.trans h.2.2.2.2.1, fun k h1 hne => (hg.block k (by have := h.2.1; omega) (by simp; omega)).trans (h.2.2.2.2.2 k h1 hne)⟩
theorem set {a : Addr} (h : KB B W w p) (hgB : B ≤ a.block) (hp : p < a.block) (v : Value) : KB B W (w.setCell a v) p :=
  ⟨h.1.set hp v, by rw [World.size_setCell]; exact h.2.1, h.2.2.1, h.2.2.2.1, h.2.2.2.2.1, fun k h1 hne => (Below.heap_setCell w a v k (by omega)).trans (h.2.2.2.2.2 k h1 hne)⟩
theorem drewN (h : KB B W w p) (n : Nat) : KB B W (w.drewN n) p := h
theorem toKept (h : KB w.heap.size w w' p) : Kept w w' p := ⟨h.1, ⟨h.2.2.1, h.2.2.2.1, h.2.2.2.2.1, h.2.1, fun k h1 hne => h.2.2.2.2.2 k h1 (by simpa using hne)⟩⟩
theorem below {C : Nat} {V : World} (h : KB B W w p) (hV : Below C V W) (hC : C ≤ B) (hp : C ≤ p) (hs : C ≤ W.heap.size) : Below C V w :=
  ⟨h.2.2.1.trans hV.os, h.2.2.2.1.trans hV.tape, h.2.2.2.2.1.trans hV.output, Nat.le_trans hV.size h.2.1, fun k h1 => (h.2.2.2.2.2 k (by omega) (by omega)).trans (hV.block k h1)⟩
end KB
theorem Box3.kept {w w' : World} {b p : Nat} {x y z : Value} (h : Box3 w b x y z) (hk : Kept w w' p) (hne : b ≠ p) : Box3 w' b x y z := h.grown hk.2 (by simpa using hne)
theorem Own.kept1 {w w' : World} {lo g n c p : Nat} {xs : List Int} (h : Own w lo (.slice (some ⟨g, 0, none⟩) n c) xs) (hk : Kept w w' p) (hne : g ≠ p) : Own w' lo (.slice (some ⟨g, 0, none⟩) n c) xs := Own.keep h hk.2 (.inr (by simp [Value.ownBlock, hne]))
theorem Own.keptB {w w' : World} {lo p : Nat} {s : Value} {xs : List Int} (h : Own w lo s xs) (hk : Kept w w' p) (hp : p < lo) : Own w' lo s xs := by
  refine Own.keep h hk.2 ?_
  cases e : s.ownBlock with
  | none => exact .inl rfl
  | some k =>
    have := Own.lt h k e
    exact .inr (by intro e2; injection e2 with e2; omega)
theorem own_put {w : World} {lo g cap n : Nat} {f : Nat → Int} (h : Own w lo (.slice (some ⟨g, 0, none⟩) n cap) (tab n f)) (k : Nat) (v : Int) :
    Own (w.setCell ⟨g, k, none⟩ (.int .i64 v)) lo (.slice (some ⟨g, 0, none⟩) n cap) (tab n (fun q => if q = k then v else f q)) ∧ w.grownBy (w.setCell ⟨g, k, none⟩ (.int .i64 v)) (some g) :=
  own_store h (tab_set (fun _ => by simp) (fun i _ hne => by simp [hne]))
theorem i64_le (x : Int) : IntKind.i64.wrap x ≤ 9223372036854775807 := by
  have e1 : IntKind.i64.bits = 64 := rfl
  have e2 : IntKind.i64.signed = true := rfl
  unfold IntKind.wrap
  simp only [e1, e2]
  simp only [Bool.true_and, ge_iff_le, decide_eq_true_eq]
  split <;> omega
set_option maxHeartbeats 4000000 in
theorem l3Draw (p : Nat) (r c most : Int) (N : Nat) (w : World) (hc : Cur w p) (hN : Hid (r * c = (N : Int))) (h : N ≤ 1000) :
    Calls Try.prog 79 #[.pointer (some ⟨p, 0, none⟩), .int .i64 r, .int .i64 c, .int .i64 most] w fun e w' =>
      (∃ (g : Nat) (f : Nat → Int), e = .returned (mv r c (.slice (some ⟨g, 0, none⟩) N N)) ∧ Own w' w.heap.size (.slice (some ⟨g, 0, none⟩) N N) (tab N f)) ∧ KB w.heap.size w w' p := by
  have hp := hc.lt
  have HK := hide ((KB.start hc).alloc (Nat.le_refl _) (.cells #[.int .i64 0, .int .i64 0, .slice none 0 0] 28)); clear hc
  go_enter Try.func79, Try.ntmps79
  go_wp2_with fail
  refine (specL3New r c N _ hN (by omega)).mono ?_; rintro e w1 ⟨rfl, ho, hb⟩
  have hz := hb.size
  simp only [World.size_alloc] at ho hz
  have HO : Hid (Own w1 (w.heap.size + 1) (.slice (some ⟨w.heap.size + 1 + 1, 0, none⟩) N N) (tab N (fun _ => 0))) := by rw [Hid, ← tab_zeros]; exact ho
  have hlt := Own.lt ho _ rfl
  have HK1 := hide (HK.out.call (Nat.le_refl _) hb)
  have B0 := hide ((Box3.new (x := .int .i64 0) (y := .int .i64 0) (z := .slice none 0 0) w w.heap.size 28 rfl).call hb)
  clear ho hb HK
  simp only [World.size_alloc]
  go_wp2_with fail
  go_loopw [10] (fun i wr => ∃ (k : Nat) (f : Nat → Int), k ≤ N ∧ i = .int .i64 k ∧ Own wr (w.heap.size + 1) (.slice (some ⟨w.heap.size + 1 + 1, 0, none⟩) N N) (tab N f) ∧
      Box3 wr w.heap.size (.int .i64 0) (.int .i64 0) (.slice none 0 0) ∧ Box3 wr w1.heap.size (.int .i64 r) (.int .i64 c) (.slice (some ⟨w.heap.size + 1 + 1, 0, none⟩) N N) ∧ KB w.heap.size w wr p) (fun i _ => N - (intOf i).toNat)
  case atStart =>
    exact ⟨0, _, Nat.zero_le _, rfl, HO.out.alloc _, B0.out.alloc _, Box3.new _ _ _ rfl, HK1.out.alloc (Nat.le_refl _) _⟩
  case round =>
    obtain ⟨k, f, hk, rfl, ho, b1, b2, hK⟩ := hrel
    have hB1 := hide b1
    have hB2 := hide b2
    have HO := hide ho
    have HK := hide hK
    clear ho b1 hK
    have zz := HK.out.size
    obtain ⟨⟨d0, d1, d2⟩, _⟩ := b2
    by_cases hlt' : k < N
    · have hcur := hide HK.out.1
      go_wp2_with fail
      go_region_with (go_at_call 78; go_loud (refine (l1Below_any p _ _ (by exact hcur.out) (i64_le _)).mono ?_; rintro e w5 ⟨⟨x, rfl, x0, x1⟩, hk5⟩; have KO := Own.kept1 (by exact HO.out) hk5 (by omega); have c5 := own_cell KO hlt'; have f5 := own_free KO k; have b5 := Box3.kept (by exact hB2.out) hk5 (by omega); obtain ⟨⟨n0, n1, n2⟩, _⟩ := b5; clear d0 d1 d2; have KO5 := hide KO; clear KO))
      all_goals go_wp2_with fail
      all_goals exact ⟨⟨k + 1, _, by omega, by go_num, (own_put KO5.out k _).1, Box3.set (Box3.kept (w := wr.drew) hB1.out hk5 (by omega)) (by dsimp only; omega) _, Box3.set (Box3.kept (w := wr.drew) hB2.out hk5 (by omega)) (by dsimp only; omega) _, KB.set (KB.kept (w := wr.drew) HK.out (Nat.le_refl _) hk5) (by dsimp only; omega) (by dsimp only; omega) _⟩, by simp [intOf]; omega⟩
    · have hkk : k = N := by omega
      obtain ⟨⟨m0, m1, m2⟩, _⟩ := Box3.stored hB1.out (.int .i64 r) (.int .i64 c) (.slice (some ⟨w.heap.size + 1 + 1, 0, none⟩) N N)
      obtain ⟨⟨e0, e1, e2⟩, g0, g1, g2⟩ := hB1.out
      go_wp2
      exact bodyPost_ret (v := mv (r) (c) (.slice (some ⟨w.heap.size + 1 + 1, 0, none⟩) N N)) (by first | (simp [results, Try.results79, go_sem, m0, m1, m2]; done) | (simp [results, Try.results79, go_sem]; done)) rfl ⟨⟨_, f, rfl, (((Own.set HO.out (own_ne (by dsimp only; omega)) _).set (own_ne (by dsimp only; omega)) _).set (own_ne (by dsimp only; omega)) _).mono (by omega)⟩, ((HK.out.set (by dsimp only; omega) (by dsimp only; omega) _).set (by dsimp only; omega) (by dsimp only; omega) _).set (by dsimp only; omega) (by dsimp only; omega) _⟩
/-- A matrix that a draw gives: its cells lie in a block of its own from B on. -/
def DrawM (B : Nat) (W : World) (p : Nat) (e : Ending) (w' : World) : Prop :=
  (∃ (r c : Int) (A : Option Addr) (n cap : Nat) (xs : List Int), e = .returned (mv r c (.slice A n cap)) ∧ n ≤ 1001 ∧ Own w' B (.slice A n cap) xs) ∧ KB B W w' p
theorem KB.grownO {B : Nat} {W w w' : World} {p : Nat} {s : Value} {xs : List Int} (h : KB B W w p) (hB : B ≤ W.heap.size) (hg : w.grownBy w' s.ownBlock) (ho : Own w B s xs) (hp : p < B) : KB B W w' p := by
  cases e : s.ownBlock with
  | none =>
    rw [e] at hg
    exact h.call hB ⟨hg.os, hg.tape, hg.output, hg.size, fun k hk => hg.block k hk (by simp)⟩
  | some g =>
    rw [e] at hg
    have := Own.lt ho g e
    exact h.grown hB hg this.1 (by omega)
set_option maxHeartbeats 4000000 in
theorem l3Spoil (p B : Nat) (r c : Int) (A : Option Addr) (n cap : Nat) (xs : List Int) (w : World) (hc : Cur w p) (ho : Own w B (.slice A n cap) xs) (hp : p < B) (hB : B ≤ w.heap.size) (hn : n ≤ 1000) :
    Calls Try.prog 82 #[.pointer (some ⟨p, 0, none⟩), mv r c (.slice A n cap)] w (DrawM B w p) := by
  obtain ⟨rfl, _⟩ := Own.reads ho
  have hl := Own.lt ho
  have HK1 := hide (((KB.startB (B := B) hc).alloc hB (.cells #[.int .i64 r, .int .i64 c, .slice A xs.length cap] 28)).alloc hB (.cells #[.int .i64 0, .int .i64 0, .slice none 0 0] 28))
  have HO1 := hide ((ho.alloc (.cells #[.int .i64 r, .int .i64 c, .slice A xs.length cap] 28)).alloc (.cells #[.int .i64 0, .int .i64 0, .slice none 0 0] 28))
  have B0 := hide ((Box3.new (x := .int .i64 r) (y := .int .i64 c) (z := .slice A xs.length cap) w w.heap.size 28 rfl).alloc (.cells #[.int .i64 0, .int .i64 0, .slice none 0 0] 28))
  have B1 := hide (Box3.new (x := .int .i64 0) (y := .int .i64 0) (z := .slice none 0 0) (w.alloc (.cells #[.int .i64 r, .int .i64 c, .slice A xs.length cap] 28)) (w.heap.size + 1) 28 (by simp))
  clear hc ho
  go_enter Try.func82, Try.ntmps82
  go_wp2_with fail
  refine (l1Below p 40 _ HK1.out.1 (by omega) (by omega)).mono ?_; rintro e w1 ⟨⟨x, rfl, x0, x1⟩, hk⟩
  have HK2 := hide (HK1.out.kept hB hk)
  have HO2 := hide (Own.keptB HO1.out hk hp)
  have b0 := hide (Box3.kept B0.out hk (by omega))
  have b1 := hide (Box3.kept B1.out hk (by omega))
  clear HK1 HO1 B0 B1 hk
  by_cases e0 : x = 0
  · have d0 : (x == 0) = true := by simpa using e0
    obtain ⟨⟨c0, c1, c2⟩, _⟩ := b0.out
    clear e0
    go_wp2_with fail
    have HK3 := hide (HK2.out.alloc hB (.cells #[.int .i64 (-1), .int .i64 0, .int .i64 7, .int .i64 (wrap64 (r + 1))] 3))
    have hr := w64_in (r + 1)
    refine (l1PickInt p w1.heap.size 4 4 _ HK3.out.1 (by have := HK2.out.1.lt; omega) (by simp) (by omega) (by omega) ?_).mono ?_
    · intro k hk
      have hk' : k = 0 ∨ k = 1 ∨ k = 2 ∨ k = 3 := by omega
      clear hk
      rcases hk' with rfl | rfl | rfl | rfl
      · exact ⟨-1, by go_simp, by omega, by omega⟩
      · exact ⟨0, by go_simp, by omega, by omega⟩
      · exact ⟨7, by go_simp, by omega, by omega⟩
      · exact ⟨wrap64 (r + 1), by go_simp, by omega, by omega⟩
    rintro e w3 ⟨⟨y, rfl, y0, y1⟩, hk⟩
    have HK4 := hide (HK3.out.kept hB hk)
    have HO4 := hide (Own.keptB (HO2.out.alloc _) hk hp)
    have n0 := hide (Box3.kept (b0.out.alloc _) hk (by omega))
    have n1 := hide (Box3.kept (b1.out.alloc _) hk (by omega))
    clear hk b0 b1 HK2 HK3 HO2 c0 c1 c2
    obtain ⟨⟨m0, m1, m2⟩, _⟩ := Box3.stored (n1.out.set (p := ⟨w.heap.size, 0, none⟩) (by dsimp only; omega) (.int .i64 y)) (.int .i64 y) (.int .i64 c) (.slice A xs.length cap)
    obtain ⟨⟨c0, c1, c2⟩, f0, f1, f2⟩ := n0.out
    obtain ⟨⟨g0, g1, g2⟩, k0, k1, k2⟩ := n1.out
    go_wp2
    exact bodyPost_ret (v := mv (y) (c) (.slice A xs.length cap)) (by first | (simp [results, Try.results82, go_sem, m0, m1, m2]; done) | (simp [results, Try.results82, go_sem]; done)) rfl ⟨⟨_, _, _, _, _, _, rfl, by omega, (((HO4.out.set (own_nl hl (.inr (by dsimp only; omega))) _).set (own_nl hl (.inr (by dsimp only; omega))) _).set (own_nl hl (.inr (by dsimp only; omega))) _).set (own_nl hl (.inr (by dsimp only; omega))) _⟩, (((HK4.out.set (by dsimp only; omega) (by dsimp only; omega) _).set (by dsimp only; omega) (by dsimp only; omega) _).set (by dsimp only; omega) (by dsimp only; omega) _).set (by dsimp only; omega) (by dsimp only; omega) _⟩
  · have d0 : (x == 0) = false := by simpa using e0
    by_cases e1 : x = 1
    · have d1 : (x == 1) = true := by simpa using e1
      clear e0 e1
      by_cases hx : 0 < xs.length
      · obtain ⟨g, rfl, hg1, hg2⟩ := own_some HO2.out hx
        have hlg := hl g rfl
        have HT : Hid (Own w1 B (.slice (some ⟨g, 0, none⟩) xs.length cap) (tab xs.length fun i => xs.getD i 0)) := by rw [Hid, tab_self]; exact HO2.out
        have dp : decide ((0 : Int) < (xs.length : Int)) = true := decide_eq_true (by omega)
        obtain ⟨⟨c0, c1, c2⟩, _⟩ := b0.out
        obtain ⟨L, hL⟩ : ∃ L, xs.length = L := ⟨_, rfl⟩
        rw [hL] at HT hx dp c2 b0 hn hl ⊢
        clear HO2
        have i0 : (0 : Int) < (L : Int) := by omega
        go_wp2_with fail
        go_region_with (go_at_call 88; refine (l1Odd p _ (by exact HK2.out.1)).mono ?_; rintro e w5 ⟨⟨y, rfl, y0, y1⟩, hk5⟩; have KO := Own.kept1 (by exact HT.out) hk5 (by omega); have c5 := own_cell KO hx; have f5 := own_free KO 0; have b5 := Box3.kept (by exact b0.out) hk5 (by omega); obtain ⟨⟨n0, n1, n2⟩, _⟩ := b5; clear c0 c1 c2; have KO5 := hide KO; clear KO)
        all_goals
          have HK5 := hide (KB.set (KB.kept (w := w1.drew) HK2.out hB hk5) (a := ⟨g, 0, none⟩) (by dsimp only; omega) (by dsimp only; omega) (.int .i64 y))
          have u0 := hide (Box3.set (Box3.kept (w := w1.drew) b0.out hk5 (by omega)) (p := ⟨g, 0, none⟩) (by dsimp only; omega) (.int .i64 y))
          have u1 := hide (Box3.set (Box3.kept (w := w1.drew) b1.out hk5 (by omega)) (p := ⟨g, 0, none⟩) (by dsimp only; omega) (.int .i64 y))
          have HO5 := hide (own_put KO5.out 0 y).1
          clear n0 n1 n2 c5 f5 hk5 KO5 HK2 HT b0 b1
          obtain ⟨⟨m0, m1, m2⟩, _⟩ := Box3.stored u1.out (.int .i64 r) (.int .i64 c) (.slice (some ⟨g, 0, none⟩) L cap)
          obtain ⟨⟨c0, c1, c2⟩, f0, f1, f2⟩ := u0.out
          obtain ⟨⟨g0, g1, g2⟩, k0, k1, k2⟩ := u1.out
          go_wp2
          exact bodyPost_ret (v := mv (r) (c) (.slice (some ⟨g, 0, none⟩) L cap)) (by first | (simp [results, Try.results82, go_sem, m0, m1, m2]; done) | (simp [results, Try.results82, go_sem]; done)) rfl ⟨⟨_, _, _, _, _, _, rfl, by omega, ((HO5.out.set (own_nl hl (.inr (by dsimp only; omega))) _).set (own_nl hl (.inr (by dsimp only; omega))) _).set (own_nl hl (.inr (by dsimp only; omega))) _⟩, ((HK5.out.set (by dsimp only; omega) (by dsimp only; omega) _).set (by dsimp only; omega) (by dsimp only; omega) _).set (by dsimp only; omega) (by dsimp only; omega) _⟩
      · have dp : decide ((0 : Int) < (xs.length : Int)) = false := decide_eq_false (by omega)
        obtain ⟨⟨m0, m1, m2⟩, _⟩ := Box3.stored b1.out (.int .i64 r) (.int .i64 c) (.slice A xs.length cap)
        obtain ⟨⟨c0, c1, c2⟩, f0, f1, f2⟩ := b0.out
        obtain ⟨⟨g0, g1, g2⟩, k0, k1, k2⟩ := b1.out
        go_wp2
        exact bodyPost_ret (v := mv (r) (c) (.slice A xs.length cap)) (by first | (simp [results, Try.results82, go_sem, m0, m1, m2]; done) | (simp [results, Try.results82, go_sem]; done)) rfl ⟨⟨_, _, _, _, _, _, rfl, by omega, ((HO2.out.set (own_nl hl (.inr (by dsimp only; omega))) _).set (own_nl hl (.inr (by dsimp only; omega))) _).set (own_nl hl (.inr (by dsimp only; omega))) _⟩, ((HK2.out.set (by dsimp only; omega) (by dsimp only; omega) _).set (by dsimp only; omega) (by dsimp only; omega) _).set (by dsimp only; omega) (by dsimp only; omega) _⟩
    · have d1 : (x == 1) = false := by simpa using e1
      by_cases e2 : x = 2
      · have d2 : (x == 2) = true := by simpa using e2
        clear e0 e1 e2
        obtain ⟨⟨c0, c1, c2⟩, _⟩ := b0.out
        have hz2 := HK2.out.size
        have hb1 := b1.out.lt
        go_wp2_with (at_builtin; refine wpList_append_one rfl _ _ rfl (.slice A xs.length cap) B xs rfl (Own.alloc HO2.out _) w1.heap.size 1 rfl (by go_simp) (by omega) (by simp; omega) ?_; intro v4 w4 ho4 hg4 hbk; have HK4 := hide (KB.grownO (HK2.out.alloc hB _) hB hg4 (Own.alloc HO2.out _) hp); have u0 := hide (Box3.grown (b0.out.alloc _) hg4 (own_nl hl (.inr (by omega))).symm); have u1 := hide (Box3.grown (b1.out.alloc _) hg4 (own_nl hl (.inr (by omega))).symm); clear c0 c1 c2; obtain ⟨⟨c0, c1, c2⟩, f0, f1, f2⟩ := u0.out; obtain ⟨⟨g0, g1, g2⟩, k0, k1, k2⟩ := u1.out; have hn4 : (xs ++ [(1 : Int)]).length ≤ 1001 := (by simp; omega); obtain ⟨ys, hys⟩ : ∃ ys, xs ++ [(1 : Int)] = ys := ⟨_, rfl⟩; rw [hys] at ho4 hn4; have HO4 := hide ho4; obtain ⟨A4, c4, rfl, _⟩ := Own.sl ho4; obtain ⟨L4, hL4⟩ : ∃ L, ys.length = L := ⟨_, rfl⟩; rw [hL4] at HO4 hn4 hbk; rw [hL4]; clear ho4 hys hg4)
        have hne0 : (Value.slice A4 L4 c4).ownBlock ≠ some w.heap.size := by
          rcases hbk with e | e
          · rw [e]; exact own_nl hl (.inr (Nat.le_refl _))
          · rw [e]; simp; omega
        have hne1 : (Value.slice A4 L4 c4).ownBlock ≠ some (w.heap.size + 1) := by
          rcases hbk with e | e
          · rw [e]; exact own_nl hl (.inr (by omega))
          · rw [e]; simp; omega
        have m := hide (Box3.stored (u1.out.set (p := ⟨w.heap.size, 2, none⟩) (by dsimp only; omega) (.slice A4 L4 c4)) (.int .i64 r) (.int .i64 c) (.slice A4 L4 c4))
        obtain ⟨⟨m0, m1, m2⟩, _⟩ := m.out
        clear hbk
        go_wp2
        exact bodyPost_ret (v := mv (r) (c) (.slice A4 L4 c4)) (by first | (simp [results, Try.results82, go_sem, m0, m1, m2]; done) | (simp [results, Try.results82, go_sem]; done)) rfl ⟨⟨_, _, _, _, _, _, rfl, by omega, (((HO4.out.set hne0 _).set hne1 _).set hne1 _).set hne1 _⟩, (((HK4.out.set (by dsimp only; omega) (by dsimp only; omega) _).set (by dsimp only; omega) (by dsimp only; omega) _).set (by dsimp only; omega) (by dsimp only; omega) _).set (by dsimp only; omega) (by dsimp only; omega) _⟩
      · have d2 : (x == 2) = false := by simpa using e2
        obtain ⟨⟨m0, m1, m2⟩, _⟩ := Box3.stored b1.out (.int .i64 r) (.int .i64 c) (.slice A xs.length cap)
        obtain ⟨⟨c0, c1, c2⟩, f0, f1, f2⟩ := b0.out
        obtain ⟨⟨g0, g1, g2⟩, k0, k1, k2⟩ := b1.out
        go_wp2
        exact bodyPost_ret (v := mv (r) (c) (.slice A xs.length cap)) (by first | (simp [results, Try.results82, go_sem, m0, m1, m2]; done) | (simp [results, Try.results82, go_sem]; done)) rfl ⟨⟨_, _, _, _, _, _, rfl, by omega, ((HO2.out.set (own_nl hl (.inr (by dsimp only; omega))) _).set (own_nl hl (.inr (by dsimp only; omega))) _).set (own_nl hl (.inr (by dsimp only; omega))) _⟩, ((HK2.out.set (by dsimp only; omega) (by dsimp only; omega) _).set (by dsimp only; omega) (by dsimp only; omega) _).set (by dsimp only; omega) (by dsimp only; omega) _⟩
end Go.Proofs.Ytchlaebkigmfgaa
