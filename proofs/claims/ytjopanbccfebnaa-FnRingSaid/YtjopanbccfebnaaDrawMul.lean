/- The draw of two matrices to be multiplied. -/
import Derived.Test.YtjopanbccfebnaaDrawA
import Derived.Test.YtjopanbccfebnaaBigW
namespace Go.Proofs.Ytjopanbccfebnaa
open Go.RowKit
set_option linter.unusedSimpArgs false
set_option linter.unusedVariables false
/-- How things stand between the draws: the cursor, the two result boxes, the box of the first matrix, and its cells. -/
def ST (B : Nat) (W : World) (p b bm lo : Nat) (r c s : Value) (v : Value) (xs : List Int) (w : World) : Prop :=
  KB B W w p ∧ Box3 w b (.int .i64 0) (.int .i64 0) (.slice none 0 0) ∧ Box3 w (b + 1) (.int .i64 0) (.int .i64 0) (.slice none 0 0) ∧ Box3 w bm r c s ∧ Own w lo v xs
theorem ST.kept {B : Nat} {W w w' : World} {p b bm lo : Nat} {r c s v : Value} {xs : List Int} (h : ST B W p b bm lo r c s v xs w) (hk : Kept w w' p) (hB : B ≤ W.heap.size) (h0 : b ≠ p) (h1 : b + 1 ≠ p) (hm : bm ≠ p) (hp : p < lo) : ST B W p b bm lo r c s v xs w' :=
  ⟨h.1.kept hB hk, Box3.kept h.2.1 hk h0, Box3.kept h.2.2.1 hk h1, Box3.kept h.2.2.2.1 hk hm, Own.keptB h.2.2.2.2 hk hp⟩
theorem ST.call {B : Nat} {W w w' : World} {p b bm lo : Nat} {r c s v : Value} {xs : List Int} (h : ST B W p b bm lo r c s v xs w) (hb : Below w.heap.size w w') (hB : B ≤ W.heap.size) : ST B W p b bm lo r c s v xs w' :=
  ⟨h.1.call hB hb, h.2.1.call hb, h.2.2.1.call hb, h.2.2.2.1.call hb, h.2.2.2.2.below hb⟩
/-- Two matrices that a draw gives. -/
def TwoM (w : World) (e : Ending) (w' : World) : Prop :=
  (∃ (r c : Int) (A : Option Addr) (n cap : Nat) (xs : List Int) (r' c' : Int) (A' : Option Addr) (n' cap' : Nat) (ys : List Int), e = .returned (.tuple #[mv r c (.slice A n cap), mv r' c' (.slice A' n' cap')]) ∧ n ≤ 1001 ∧ n' ≤ 1001 ∧ Own w' w.heap.size (.slice A n cap) xs ∧ Own w' w.heap.size (.slice A' n' cap') ys) ∧ Below w.heap.size w w'
set_option maxHeartbeats 8000000 in
theorem drawMul (cA : Option Addr) (cn ccap : Nat) (w : World) (hs : SlB w w.heap.size cA cn) (hn : cn ≤ 1048576) :
    Calls Try.prog 26 #[.slice cA cn ccap] w (TwoM w) := by
  have hB0 : Below w.heap.size w ((w.alloc (.cells #[.int .i64 0, .int .i64 0, .slice none 0 0] 26)).alloc (.cells #[.int .i64 0, .int .i64 0, .slice none 0 0] 26)) := (by repeat' (first | exact Below.refl _ _ | (refine Below.alloc ?_ ?_ _) | (refine Below.setCell ?_ ?_ _) | (refine Below.drew ?_) | (refine below_drewN ?_ _) | (refine Below.trans ?_ (Below.mono (by assumption) ?_)) | omega | (simp only [World.size_alloc, World.size_setCell, World.size_drew, size_drewN]; omega)))
  have HS : Hid (SlB ((w.alloc (.cells #[.int .i64 0, .int .i64 0, .slice none 0 0] 26)).alloc (.cells #[.int .i64 0, .int .i64 0, .slice none 0 0] 26)) ((w.alloc (.cells #[.int .i64 0, .int .i64 0, .slice none 0 0] 26)).alloc (.cells #[.int .i64 0, .int .i64 0, .slice none 0 0] 26)).heap.size cA cn) := (hs.below hB0).mono hB0.size
  have HB0 := hide hB0
  clear hs hB0
  go_enter Try.func26, Try.ntmps26
  go_wp2_with fail
  refine (l1New cA cn ccap _ HS.out hn).mono ?_; rintro e w1 ⟨rfl, hc, hb⟩
  simp only [World.size_alloc] at hc
  have B0 := hide ((Box3.new (x := .int .i64 0) (y := .int .i64 0) (z := .slice none 0 0) w w.heap.size 26 rfl).alloc (.cells #[.int .i64 0, .int .i64 0, .slice none 0 0] 26) |>.call hb)
  have B1 := hide ((Box3.new (x := .int .i64 0) (y := .int .i64 0) (z := .slice none 0 0) (w.alloc (.cells #[.int .i64 0, .int .i64 0, .slice none 0 0] 26)) (w.heap.size + 1) 26 (by simp)).call hb)
  have hV : Below w.heap.size w w1 := HB0.out.trans (hb.mono HB0.out.size)
  have HK := hide (KB.startB (B := w.heap.size) hc)
  have zc := hc.lt
  clear hb hc HS HB0 hn
  simp only [World.size_alloc]
  go_wp2_with fail
  refine (l3Any _ _ HK.out.1).mono ?_; rintro e w2 ⟨⟨r, c, A, n, cap, xs, rfl, hn, hx⟩, hk⟩
  have zk := hk.size
  have HS := hide (show ST w.heap.size w1 (w.heap.size + 1 + 1) w.heap.size w2.heap.size w1.heap.size (.int .i64 r) (.int .i64 c) (.slice A n cap) (.slice A n cap) xs (w2.alloc (.cells #[.int .i64 r, .int .i64 c, .slice A n cap] 26)) from
    ⟨(HK.out.kept hV.size hk.toKept).alloc hV.size _, (Box3.kept B0.out hk.toKept (by omega)).alloc _, (Box3.kept B1.out hk.toKept (by omega)).alloc _, Box3.new _ _ _ rfl, hx.alloc _⟩)
  have hvs := hV.size
  have hxl := hide (Own.reads hx).1
  clear hx hk HK B0 B1
  go_wp2_with fail
  refine (l1Once _ 8 _ HS.out.1.1 (by omega) (by omega)).mono ?_; rintro e w3 ⟨⟨o, rfl⟩, hk⟩
  have HS3 := hide (HS.out.kept hk hvs (by omega) (by omega) (by omega) (by omega))
  clear HS hk
  have HS := HS3
  clear HS3
  obtain ⟨⟨c0, c1, c2⟩, _⟩ := HS.out.2.2.2.1
  cases o
  · go_wp2_with fail
    have im := fun A w (h : SlI w A xs) => specIsMatrix r c A cap xs w h (by have := hxl.out; omega)
    rw [← hxl.out] at im
    rcases Bool.eq_false_or_eq_true (isMat r c xs) with hm | hm
    · rw [hm] at im
      obtain ⟨-, -, k0, k1, -, -, -⟩ := isMat_t hm
      obtain ⟨C, rfl⟩ := Int.eq_ofNat_of_zero_le k0
      refine (im A _ (Own.reads HS.out.2.2.2.2).2).mono ?_; rintro e w4 ⟨rfl, hb⟩
      have HS4 := hide (HS.out.call hb hvs)
      clear HS hb im c0 c1 c2 hm k0
      have HS := HS4
      clear HS4
      obtain ⟨⟨c0, c1, c2⟩, _⟩ := HS.out.2.2.2.1
      go_wp2_with fail
      · skip
        go_region_with (first
          | (go_at_call 56; refine (l1Below _ 5 _ (by exact HS.out.1.1) (by omega) (by omega)).mono ?_; rintro e w7 ⟨⟨y, rfl, y0, y1⟩, hk7⟩; have HS7 := hide (ST.kept (by exact HS.out) hk7 (by omega) (by omega) (by omega) (by omega) (by omega)); clear HS c0 c1 c2 hk7; have HS := HS7; clear HS7; obtain ⟨⟨c0, c1, c2⟩, _⟩ := HS.out.2.2.2.1; obtain ⟨Y, rfl⟩ := Int.eq_ofNat_of_zero_le y0; clear y0; obtain ⟨N, eN⟩ : ∃ N, C * Y = N := ⟨_, rfl⟩; have hN : Hid ((C : Int) * (Y : Int) = (N : Int)) := (by rw [Hid, ← eN]; push_cast; rfl); have hN96 : N ≤ 96 := (by rw [← eN]; exact Nat.mul_le_mul (show C ≤ 24 by omega) (show Y ≤ 4 by omega)); clear eN)
          | (go_at_call 55; refine (l3Draw _ C Y 9 N _ (by exact HS.out.1.1) hN (by omega)).mono ?_; rintro e w8 ⟨⟨g, f, rfl, hg⟩, hk8⟩; have HG := hide hg; have HK8 := hide hk8; have zk8 := hk8.size; have bm8 := Box3.kept HS.out.2.2.2.1 hk8.toKept (by omega); clear c0 c1 c2 hg hk8; obtain ⟨⟨c0, c1, c2⟩, _⟩ := bm8)
          | (go_at_call 54; refine (l3Spoil _ w7.heap.size C Y (some ⟨g, 0, none⟩) N N _ _ HK8.out.1 HG.out (by have := HS.out.1.1.lt; omega) zk8 (by omega)).mono ?_; rintro e w9 ⟨⟨r2, c2', A2, n2, cap2, ys, rfl, hn2, hy⟩, hk9⟩; have HY := hide hy; have hk79 := (KB.trans HK8.out (Nat.le_refl _) hk9).toKept; have zz9 := hk79.2.size; have zzp := HS.out.1.1.lt; have HS9 := hide (ST.kept HS.out hk79 (by omega) (by omega) (by omega) (by omega) (by omega)); clear hy hk9 hk79 HS c0 c1 c2; have HS := HS9; clear HS9; obtain ⟨⟨c0, c1, c2⟩, _⟩ := HS.out.2.2.2.1; obtain ⟨⟨a0, a1, a2⟩, af0, af1, af2⟩ := HS.out.2.1; obtain ⟨⟨b0, b1, b2⟩, bf0, bf1, bf2⟩ := HS.out.2.2.1))
        all_goals
          obtain ⟨hK, hb0, hb1, hbm, hX⟩ := HS.out
          have hlx := Own.lt hX
          have hly := Own.lt HY.out
          have HKb := hide (hK.below hV (Nat.le_refl _) (by omega) hV.size)
          clear hK c0 c1 c2 a0 a1 a2 af0 af1 af2 b0 b1 b2 bf0 bf1 bf2
          obtain ⟨⟨c0, c1, c2⟩, _⟩ := hbm
          have u0 := hide (Box3.set (p := ⟨w.heap.size + 1, 2, none⟩) (Box3.set (p := ⟨w.heap.size + 1, 1, none⟩) (Box3.set (p := ⟨w.heap.size + 1, 0, none⟩) (Box3.stored hb0 (.int .i64 r) (.int .i64 C) (.slice A n cap)) (by dsimp only; omega) (.int .i64 r2)) (by dsimp only; omega) (.int .i64 c2')) (by dsimp only; omega) (.slice A2 n2 cap2))
          have u1 := hide (Box3.stored (((hb1.set (p := ⟨w.heap.size, 0, none⟩) (by dsimp only; omega) (.int .i64 r)).set (p := ⟨w.heap.size, 1, none⟩) (by dsimp only; omega) (.int .i64 C)).set (p := ⟨w.heap.size, 2, none⟩) (by dsimp only; omega) (.slice A n cap)) (.int .i64 r2) (.int .i64 c2') (.slice A2 n2 cap2))
          obtain ⟨⟨a0, a1, a2⟩, af0, af1, af2⟩ := hb0
          obtain ⟨⟨b0, b1, b2⟩, bf0, bf1, bf2⟩ := hb1
          obtain ⟨⟨m0, m1, m2⟩, _⟩ := u0.out
          obtain ⟨⟨n0, n1, n2'⟩, _⟩ := u1.out
          go_wp2
          exact bodyPost_ret (v := .tuple #[mv r C (.slice A n cap), mv r2 c2' (.slice A2 n2 cap2)]) (by simp [results, Try.results26, go_sem, m0, m1, m2, n0, n1, n2']) rfl
            ⟨⟨r, C, A, n, cap, xs, r2, c2', A2, n2, cap2, ys, rfl, hn, hn2, ((((((hX.set (own_nl hlx (.inl (by dsimp only; omega))) _).set (own_nl hlx (.inl (by dsimp only; omega))) _).set (own_nl hlx (.inl (by dsimp only; omega))) _).set (own_nl hlx (.inl (by dsimp only; omega))) _).set (own_nl hlx (.inl (by dsimp only; omega))) _).set (own_nl hlx (.inl (by dsimp only; omega))) _).mono (by omega),
              ((((((HY.out.set (own_nl hly (.inl (by dsimp only; omega))) _).set (own_nl hly (.inl (by dsimp only; omega))) _).set (own_nl hly (.inl (by dsimp only; omega))) _).set (own_nl hly (.inl (by dsimp only; omega))) _).set (own_nl hly (.inl (by dsimp only; omega))) _).set (own_nl hly (.inl (by dsimp only; omega))) _).mono (by omega)⟩,
              (((((HKb.out.setCell (by dsimp only; omega) _).setCell (by dsimp only; omega) _).setCell (by dsimp only; omega) _).setCell (by dsimp only; omega) _).setCell (by dsimp only; omega) _).setCell (by dsimp only; omega) _⟩

    · rw [hm] at im
      refine (im A _ (Own.reads HS.out.2.2.2.2).2).mono ?_; rintro e w4 ⟨rfl, hb⟩
      have HS4 := hide (HS.out.call hb hvs)
      clear HS hb im c0 c1 c2
      have HS := HS4
      clear HS4
      obtain ⟨⟨c0, c1, c2⟩, _⟩ := HS.out.2.2.2.1
      go_wp2_with fail
      · skip
        go_region_with (go_at_call 52; refine (l3Any _ _ (by exact HS.out.1.1)).mono ?_; rintro e w9 ⟨⟨r2, c2', A2, n2, cap2, ys, rfl, hn2, hy⟩, hk9⟩; have HS9 := hide (ST.kept (by exact HS.out) hk9.toKept (by omega) (by omega) (by omega) (by omega) (by omega)); have zz9 := hk9.size; have zzp := HS.out.1.1.lt; (try simp only [World.size_drew] at zz9 hy); have HY := hide hy; clear hy HS c0 c1 c2; have HS := HS9; clear HS9; obtain ⟨⟨c0, c1, c2⟩, _⟩ := HS.out.2.2.2.1; obtain ⟨⟨a0, a1, a2⟩, af0, af1, af2⟩ := HS.out.2.1; obtain ⟨⟨b0, b1, b2⟩, bf0, bf1, bf2⟩ := HS.out.2.2.1)
        all_goals
          obtain ⟨hK, hb0, hb1, hbm, hX⟩ := HS.out
          have hlx := Own.lt hX
          have hly := Own.lt HY.out
          have HKb := hide (hK.below hV (Nat.le_refl _) (by omega) hV.size)
          clear hK c0 c1 c2 a0 a1 a2 af0 af1 af2 b0 b1 b2 bf0 bf1 bf2
          obtain ⟨⟨c0, c1, c2⟩, _⟩ := hbm
          have u0 := hide (Box3.set (p := ⟨w.heap.size + 1, 2, none⟩) (Box3.set (p := ⟨w.heap.size + 1, 1, none⟩) (Box3.set (p := ⟨w.heap.size + 1, 0, none⟩) (Box3.stored hb0 (.int .i64 r) (.int .i64 c) (.slice A n cap)) (by dsimp only; omega) (.int .i64 r2)) (by dsimp only; omega) (.int .i64 c2')) (by dsimp only; omega) (.slice A2 n2 cap2))
          have u1 := hide (Box3.stored (((hb1.set (p := ⟨w.heap.size, 0, none⟩) (by dsimp only; omega) (.int .i64 r)).set (p := ⟨w.heap.size, 1, none⟩) (by dsimp only; omega) (.int .i64 c)).set (p := ⟨w.heap.size, 2, none⟩) (by dsimp only; omega) (.slice A n cap)) (.int .i64 r2) (.int .i64 c2') (.slice A2 n2 cap2))
          obtain ⟨⟨a0, a1, a2⟩, af0, af1, af2⟩ := hb0
          obtain ⟨⟨b0, b1, b2⟩, bf0, bf1, bf2⟩ := hb1
          obtain ⟨⟨m0, m1, m2⟩, _⟩ := u0.out
          obtain ⟨⟨n0, n1, n2'⟩, _⟩ := u1.out
          go_wp2
          exact bodyPost_ret (v := .tuple #[mv r c (.slice A n cap), mv r2 c2' (.slice A2 n2 cap2)]) (by simp [results, Try.results26, go_sem, m0, m1, m2, n0, n1, n2']) rfl
            ⟨⟨r, c, A, n, cap, xs, r2, c2', A2, n2, cap2, ys, rfl, hn, hn2, ((((((hX.set (own_nl hlx (.inl (by dsimp only; omega))) _).set (own_nl hlx (.inl (by dsimp only; omega))) _).set (own_nl hlx (.inl (by dsimp only; omega))) _).set (own_nl hlx (.inl (by dsimp only; omega))) _).set (own_nl hlx (.inl (by dsimp only; omega))) _).set (own_nl hlx (.inl (by dsimp only; omega))) _).mono (by omega),
              ((((((HY.out.set (own_nl hly (.inl (by dsimp only; omega))) _).set (own_nl hly (.inl (by dsimp only; omega))) _).set (own_nl hly (.inl (by dsimp only; omega))) _).set (own_nl hly (.inl (by dsimp only; omega))) _).set (own_nl hly (.inl (by dsimp only; omega))) _).set (own_nl hly (.inl (by dsimp only; omega))) _).mono (by omega)⟩,
              (((((HKb.out.setCell (by dsimp only; omega) _).setCell (by dsimp only; omega) _).setCell (by dsimp only; omega) _).setCell (by dsimp only; omega) _).setCell (by dsimp only; omega) _).setCell (by dsimp only; omega) _⟩

  · go_wp2_with fail
    · skip
      · skip
        go_region_with (go_at_call 52; refine (l3Any _ _ (by exact HS.out.1.1)).mono ?_; rintro e w9 ⟨⟨r2, c2', A2, n2, cap2, ys, rfl, hn2, hy⟩, hk9⟩; have HS9 := hide (ST.kept (by exact HS.out) hk9.toKept (by omega) (by omega) (by omega) (by omega) (by omega)); have zz9 := hk9.size; have zzp := HS.out.1.1.lt; (try simp only [World.size_drew] at zz9 hy); have HY := hide hy; clear hy HS c0 c1 c2; have HS := HS9; clear HS9; obtain ⟨⟨c0, c1, c2⟩, _⟩ := HS.out.2.2.2.1; obtain ⟨⟨a0, a1, a2⟩, af0, af1, af2⟩ := HS.out.2.1; obtain ⟨⟨b0, b1, b2⟩, bf0, bf1, bf2⟩ := HS.out.2.2.1)
        all_goals
          obtain ⟨hK, hb0, hb1, hbm, hX⟩ := HS.out
          have hlx := Own.lt hX
          have hly := Own.lt HY.out
          have HKb := hide (hK.below hV (Nat.le_refl _) (by omega) hV.size)
          clear hK c0 c1 c2 a0 a1 a2 af0 af1 af2 b0 b1 b2 bf0 bf1 bf2
          obtain ⟨⟨c0, c1, c2⟩, _⟩ := hbm
          have u0 := hide (Box3.set (p := ⟨w.heap.size + 1, 2, none⟩) (Box3.set (p := ⟨w.heap.size + 1, 1, none⟩) (Box3.set (p := ⟨w.heap.size + 1, 0, none⟩) (Box3.stored hb0 (.int .i64 r) (.int .i64 c) (.slice A n cap)) (by dsimp only; omega) (.int .i64 r2)) (by dsimp only; omega) (.int .i64 c2')) (by dsimp only; omega) (.slice A2 n2 cap2))
          have u1 := hide (Box3.stored (((hb1.set (p := ⟨w.heap.size, 0, none⟩) (by dsimp only; omega) (.int .i64 r)).set (p := ⟨w.heap.size, 1, none⟩) (by dsimp only; omega) (.int .i64 c)).set (p := ⟨w.heap.size, 2, none⟩) (by dsimp only; omega) (.slice A n cap)) (.int .i64 r2) (.int .i64 c2') (.slice A2 n2 cap2))
          obtain ⟨⟨a0, a1, a2⟩, af0, af1, af2⟩ := hb0
          obtain ⟨⟨b0, b1, b2⟩, bf0, bf1, bf2⟩ := hb1
          obtain ⟨⟨m0, m1, m2⟩, _⟩ := u0.out
          obtain ⟨⟨n0, n1, n2'⟩, _⟩ := u1.out
          go_wp2
          exact bodyPost_ret (v := .tuple #[mv r c (.slice A n cap), mv r2 c2' (.slice A2 n2 cap2)]) (by simp [results, Try.results26, go_sem, m0, m1, m2, n0, n1, n2']) rfl
            ⟨⟨r, c, A, n, cap, xs, r2, c2', A2, n2, cap2, ys, rfl, hn, hn2, ((((((hX.set (own_nl hlx (.inl (by dsimp only; omega))) _).set (own_nl hlx (.inl (by dsimp only; omega))) _).set (own_nl hlx (.inl (by dsimp only; omega))) _).set (own_nl hlx (.inl (by dsimp only; omega))) _).set (own_nl hlx (.inl (by dsimp only; omega))) _).set (own_nl hlx (.inl (by dsimp only; omega))) _).mono (by omega),
              ((((((HY.out.set (own_nl hly (.inl (by dsimp only; omega))) _).set (own_nl hly (.inl (by dsimp only; omega))) _).set (own_nl hly (.inl (by dsimp only; omega))) _).set (own_nl hly (.inl (by dsimp only; omega))) _).set (own_nl hly (.inl (by dsimp only; omega))) _).set (own_nl hly (.inl (by dsimp only; omega))) _).mono (by omega)⟩,
              (((((HKb.out.setCell (by dsimp only; omega) _).setCell (by dsimp only; omega) _).setCell (by dsimp only; omega) _).setCell (by dsimp only; omega) _).setCell (by dsimp only; omega) _).setCell (by dsimp only; omega) _⟩

end Go.Proofs.Ytjopanbccfebnaa
