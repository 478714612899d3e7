/- The walk of FnTurned. -/
import Derived.Test.YtjopanbccfebnaaDrawMul
import Derived.Test.YtjopanbccfebnaaTurnL
import Derived.Test.YtjopanbccfebnaaRowLib
import Derived.Deep.DeepCutAuto
namespace Go.Proofs.Ytjopanbccfebnaa
open Go.RowKit
set_option linter.unusedSimpArgs false
set_option linter.unusedVariables false
set_option maxRecDepth 100000 in
set_option maxHeartbeats 16000000 in
theorem walkFnTurned (A : Option Addr) (n cap : Nat) (xs : List Int) (w : World) (hs : SlBArg w A n cap xs) :
    Calls Try.prog 8 #[.slice A n cap] w fun e w' => e = .returned (.bool true) ∧ Below w.heap.size w w' := by
  obtain ⟨hx, hm, hs⟩ := hs
  clear hx
  unfold maxLen at hm
  by_cases hn : n ≤ 1048576
  · have HS := hide hs; clear hs
    go_enter Try.func8, Try.ntmps8
    go_wp2_with fail
    refine (lawBig_no A n cap _ hn).mono ?_; rintro e w0 ⟨rfl, rfl⟩
    go_wp2_with fail
    refine (drawMul A n cap _ HS.out hn).mono ?_; rintro e w1 ⟨⟨r, c, A3, m3, p3, us, r', c', A4, m4, p4, ys, rfl, hm3, hm4, ho3, ho4⟩, hB⟩
    clear HS
    obtain ⟨rfl, _⟩ := Own.reads ho3
    obtain ⟨rfl, _⟩ := Own.reads ho4
    rcases mul_cases r c us r' c' ys with hno | ⟨R, C, C', rfl, rfl, rfl, rfl, h1, h2, h3⟩
    · have cm := fun A p B q w (hA : Sl w A us.length p us) (hB : Sl w B ys.length q ys) => implMul r c r' c' A B p q us ys w hA (by omega) hB (by omega)
      have cs := fun A p B q w (hA : Sl w A us.length p us) (hB : Sl w B ys.length q ys) => specMul r c r' c' A B p q us ys w hA (by omega) hB (by omega)
      rw [hno] at cm cs
      have CM : Hid (∀ A p B q w, Sl w A us.length p us → Sl w B ys.length q ys → Calls Try.prog 24 #[mv r c (.slice A us.length p), mv r' c' (.slice B ys.length q)] w (RetMat w 0 0 [] false)) := cm
      have CS : Hid (∀ A p B q w, Sl w A us.length p us → Sl w B ys.length q ys → Calls Try.prog 23 #[mv r c (.slice A us.length p), mv r' c' (.slice B ys.length q)] w (RetMat w 0 0 [] false)) := cs
      clear cm cs hno
      obtain ⟨E, hE⟩ : ∃ E : List Int, E = [] := ⟨_, rfl⟩
      rw [← hE] at CM CS
      have dE : ((E.length : Int) == 0) = true := by rw [hE]; rfl
      clear hE
      have bx3 := hide ((Box3.new (x := .int .i64 r) (y := .int .i64 c) (z := .slice A3 us.length p3) w1 w1.heap.size 26 rfl).alloc (.cells #[.int .i64 r', .int .i64 c', .slice A4 ys.length p4] 26))
      have bx4 := hide (Box3.new (x := .int .i64 r') (y := .int .i64 c') (z := .slice A4 ys.length p4) (w1.alloc (.cells #[.int .i64 r, .int .i64 c, .slice A3 us.length p3] 26)) (w1.heap.size + 1) 26 (by simp))
      have ux3 := hide ((ho3.alloc (.cells #[.int .i64 r, .int .i64 c, .slice A3 us.length p3] 26)).alloc (.cells #[.int .i64 r', .int .i64 c', .slice A4 ys.length p4] 26))
      have ux4 := hide ((ho4.alloc (.cells #[.int .i64 r, .int .i64 c, .slice A3 us.length p3] 26)).alloc (.cells #[.int .i64 r', .int .i64 c', .slice A4 ys.length p4] 26))
      have HBx : Hid (Below w.heap.size w ((w1.alloc (.cells #[.int .i64 r, .int .i64 c, .slice A3 us.length p3] 26)).alloc (.cells #[.int .i64 r', .int .i64 c', .slice A4 ys.length p4] 26))) := (hB.alloc hB.size _).alloc (by have := hB.size; simp; omega) _
      clear ho3 ho4 hB
      obtain ⟨⟨c00, c01, c02⟩, _⟩ := bx3.out
      obtain ⟨⟨c10, c11, c12⟩, _⟩ := bx4.out
      go_wp2_with fail
      refine (CM.out _ _ _ _ _ (Own.sl2 ux3.out) (Own.sl2 ux4.out)).mono ?_; rintro e w2 ⟨s, rfl, ho, hb⟩
      obtain ⟨A5, p5, rfl, _⟩ := Own.sl ho
      have b1 := hide (bx3.out.call hb |>.alloc (.cells #[.int .i64 0, .int .i64 0, .slice A5 E.length p5] 26))
      clear bx3
      have b2 := hide (bx4.out.call hb |>.alloc (.cells #[.int .i64 0, .int .i64 0, .slice A5 E.length p5] 26))
      clear bx4
      have u3 := hide (Own.below ux3.out hb |>.alloc (.cells #[.int .i64 0, .int .i64 0, .slice A5 E.length p5] 26))
      clear ux3
      have u4 := hide (Own.below ux4.out hb |>.alloc (.cells #[.int .i64 0, .int .i64 0, .slice A5 E.length p5] 26))
      clear ux4
      have u5 := hide (ho |>.alloc (.cells #[.int .i64 0, .int .i64 0, .slice A5 E.length p5] 26))
      have HB6 := hide ((kb_call HBx.out (Nat.le_refl _) hb).alloc (by have := HBx.out.size; have := hb.size; omega) (.cells #[.int .i64 0, .int .i64 0, .slice A5 E.length p5] 26))
      have b7 := hide (Box3.new (x := .int .i64 0) (y := .int .i64 0) (z := .slice A5 E.length p5) w2 w2.heap.size 26 rfl)
      clear HBx
      clear ho hb c00 c01 c02 c10 c11 c12
      obtain ⟨⟨c00, c01, c02⟩, _⟩ := b1.out
      obtain ⟨⟨c10, c11, c12⟩, _⟩ := b2.out
      go_wp2_with fail
      refine (CS.out _ _ _ _ _ (Own.sl2 u3.out) (Own.sl2 u4.out)).mono ?_; rintro e w3 ⟨s, rfl, ho, hb⟩
      obtain ⟨A7, p7, rfl, _⟩ := Own.sl ho
      clear b1
      clear b2
      clear u3
      clear u4
      have b8 := hide (b7.out.call hb |>.alloc (.cells #[.int .i64 0, .int .i64 0, .slice A7 E.length p7] 26))
      clear b7
      have u9 := hide (Own.below u5.out hb |>.alloc (.cells #[.int .i64 0, .int .i64 0, .slice A7 E.length p7] 26))
      clear u5
      have u10 := hide (ho |>.alloc (.cells #[.int .i64 0, .int .i64 0, .slice A7 E.length p7] 26))
      have HB11 := hide ((kb_call HB6.out (Nat.le_refl _) hb).alloc (by have := HB6.out.size; have := hb.size; omega) (.cells #[.int .i64 0, .int .i64 0, .slice A7 E.length p7] 26))
      have b12 := hide (Box3.new (x := .int .i64 0) (y := .int .i64 0) (z := .slice A7 E.length p7) w3 w3.heap.size 26 rfl)
      clear HB6
      clear ho hb c00 c01 c02 c10 c11 c12
      obtain ⟨⟨c00, c01, c02⟩, _⟩ := b8.out
      go_wp2
      go_returns
      exact ⟨rfl, HB11.out⟩
    · obtain ⟨X, hX⟩ : ∃ X, mulL R C C' us ys = X := ⟨_, rfl⟩
      rw [hX] at h3
      obtain ⟨Y, hY⟩ : ∃ Y, ofM C' R (Det.tr (toM C' X)) = Y := ⟨_, rfl⟩
      obtain ⟨P, hP⟩ : ∃ P, ofM C R (Det.tr (toM C us)) = P := ⟨_, rfl⟩
      obtain ⟨Q, hQ⟩ : ∃ Q, ofM C' C (Det.tr (toM C' ys)) = Q := ⟨_, rfl⟩
      obtain ⟨e1, e2, e3, e4, e5, e6, l1, l2, l3, l4⟩ := turn_mul h1 h2 hX h3 hY hP hQ
      have cm := fun A p B q w (hA : Sl w A us.length p us) (hB : Sl w B ys.length q ys) => implMul R C C C' A B p q us ys w hA (by omega) hB (by omega)
      have cs := fun A p B q w (hA : Sl w A us.length p us) (hB : Sl w B ys.length q ys) => specMul R C C C' A B p q us ys w hA (by omega) hB (by omega)
      have t1 := fun A p w (hA : Sl w A X.length p X) => implTurn R C' A p X w hA (by omega)
      have t2 := fun A p w (hA : Sl w A us.length p us) => implTurn R C A p us w hA (by omega)
      have t3 := fun A p w (hA : Sl w A ys.length p ys) => implTurn C C' A p ys w hA (by omega)
      have cm2 := fun A p B q w (hA : Sl w A Q.length p Q) (hB : Sl w B P.length q P) => implMul C' C C R A B p q Q P w hA (by omega) hB (by omega)
      have t4 := fun A p w (hA : Sl w A Y.length p Y) => implTurn C' R A p Y w hA (by omega)
      have s1 := fun A B p q w (hA : SlI w A Y) (hB : SlI w B Y) => implSameMatrix C' R C' R A B p q Y Y w hA hB (by omega) (by omega)
      have s2 := fun A B p q w (hA : SlI w A X) (hB : SlI w B X) => implSameMatrix R C' R C' A B p q X X w hA hB (by omega) (by omega)
      rw [e1] at cm cs
      rw [e2] at t1
      rw [e3] at t2
      rw [e4] at t3
      rw [e5] at cm2
      rw [e6] at t4
      rw [show sameB C' R Y C' R Y = true by simp [sameB]] at s1
      rw [show sameB R C' X R C' X = true by simp [sameB]] at s2
      have CM : Hid (∀ A p B q w, Sl w A us.length p us → Sl w B ys.length q ys → Calls Try.prog 24 #[mv R C (.slice A us.length p), mv C C' (.slice B ys.length q)] w (RetMat w R C' X true)) := cm
      have CS : Hid (∀ A p B q w, Sl w A us.length p us → Sl w B ys.length q ys → Calls Try.prog 23 #[mv R C (.slice A us.length p), mv C C' (.slice B ys.length q)] w (RetMat w R C' X true)) := cs
      have T1 : Hid (∀ A p w, Sl w A X.length p X → Calls Try.prog 18 #[mv R C' (.slice A X.length p)] w (RetMat w C' R Y true)) := t1
      have T2 : Hid (∀ A p w, Sl w A us.length p us → Calls Try.prog 18 #[mv R C (.slice A us.length p)] w (RetMat w C R P true)) := t2
      have T3 : Hid (∀ A p w, Sl w A ys.length p ys → Calls Try.prog 18 #[mv C C' (.slice A ys.length p)] w (RetMat w C' C Q true)) := t3
      have CM2 : Hid (∀ A p B q w, Sl w A Q.length p Q → Sl w B P.length q P → Calls Try.prog 24 #[mv C' C (.slice A Q.length p), mv C R (.slice B P.length q)] w (RetMat w C' R Y true)) := cm2
      have T4 : Hid (∀ A p w, Sl w A Y.length p Y → Calls Try.prog 18 #[mv C' R (.slice A Y.length p)] w (RetMat w R C' X true)) := t4
      have S1 := hide s1
      have S2 := hide s2
      clear cm cs t1 t2 t3 cm2 t4 s1 s2 e1 e2 e3 e4 e5 e6 hX hY hP hQ h1 h2 h3
      have bx3 := hide ((Box3.new (x := .int .i64 R) (y := .int .i64 C) (z := .slice A3 us.length p3) w1 w1.heap.size 26 rfl).alloc (.cells #[.int .i64 C, .int .i64 C', .slice A4 ys.length p4] 26))
      have bx4 := hide (Box3.new (x := .int .i64 C) (y := .int .i64 C') (z := .slice A4 ys.length p4) (w1.alloc (.cells #[.int .i64 R, .int .i64 C, .slice A3 us.length p3] 26)) (w1.heap.size + 1) 26 (by simp))
      have ux3 := hide ((ho3.alloc (.cells #[.int .i64 R, .int .i64 C, .slice A3 us.length p3] 26)).alloc (.cells #[.int .i64 C, .int .i64 C', .slice A4 ys.length p4] 26))
      have ux4 := hide ((ho4.alloc (.cells #[.int .i64 R, .int .i64 C, .slice A3 us.length p3] 26)).alloc (.cells #[.int .i64 C, .int .i64 C', .slice A4 ys.length p4] 26))
      have HBx : Hid (Below w.heap.size w ((w1.alloc (.cells #[.int .i64 R, .int .i64 C, .slice A3 us.length p3] 26)).alloc (.cells #[.int .i64 C, .int .i64 C', .slice A4 ys.length p4] 26))) := (hB.alloc hB.size _).alloc (by have := hB.size; simp; omega) _
      clear ho3 ho4 hB
      obtain ⟨⟨c00, c01, c02⟩, _⟩ := bx3.out
      obtain ⟨⟨c10, c11, c12⟩, _⟩ := bx4.out
      go_wp2_with fail
      refine (CM.out _ _ _ _ _ (Own.sl2 ux3.out) (Own.sl2 ux4.out)).mono ?_; rintro e w2 ⟨s, rfl, ho, hb⟩
      obtain ⟨A5, p5, rfl, _⟩ := Own.sl ho
      have b1 := hide (bx3.out.call hb |>.alloc (.cells #[.int .i64 R, .int .i64 C', .slice A5 X.length p5] 26))
      clear bx3
      have b2 := hide (bx4.out.call hb |>.alloc (.cells #[.int .i64 R, .int .i64 C', .slice A5 X.length p5] 26))
      clear bx4
      have u3 := hide (Own.below ux3.out hb |>.alloc (.cells #[.int .i64 R, .int .i64 C', .slice A5 X.length p5] 26))
      clear ux3
      have u4 := hide (Own.below ux4.out hb |>.alloc (.cells #[.int .i64 R, .int .i64 C', .slice A5 X.length p5] 26))
      clear ux4
      have u5 := hide (ho |>.alloc (.cells #[.int .i64 R, .int .i64 C', .slice A5 X.length p5] 26))
      have HB6 := hide ((kb_call HBx.out (Nat.le_refl _) hb).alloc (by have := HBx.out.size; have := hb.size; omega) (.cells #[.int .i64 R, .int .i64 C', .slice A5 X.length p5] 26))
      have b7 := hide (Box3.new (x := .int .i64 R) (y := .int .i64 C') (z := .slice A5 X.length p5) w2 w2.heap.size 26 rfl)
      clear HBx
      clear ho hb c00 c01 c02 c10 c11 c12
      obtain ⟨⟨c00, c01, c02⟩, _⟩ := b1.out
      obtain ⟨⟨c10, c11, c12⟩, _⟩ := b2.out
      go_wp2_with fail
      refine (CS.out _ _ _ _ _ (Own.sl2 u3.out) (Own.sl2 u4.out)).mono ?_; rintro e w3 ⟨s, rfl, ho, hb⟩
      obtain ⟨A7, p7, rfl, _⟩ := Own.sl ho
      have b8 := hide (b1.out.call hb |>.alloc (.cells #[.int .i64 R, .int .i64 C', .slice A7 X.length p7] 26))
      clear b1
      have b9 := hide (b2.out.call hb |>.alloc (.cells #[.int .i64 R, .int .i64 C', .slice A7 X.length p7] 26))
      clear b2
      have b10 := hide (b7.out.call hb |>.alloc (.cells #[.int .i64 R, .int .i64 C', .slice A7 X.length p7] 26))
      clear b7
      have u11 := hide (Own.below u3.out hb |>.alloc (.cells #[.int .i64 R, .int .i64 C', .slice A7 X.length p7] 26))
      clear u3
      have u12 := hide (Own.below u4.out hb |>.alloc (.cells #[.int .i64 R, .int .i64 C', .slice A7 X.length p7] 26))
      clear u4
      have u13 := hide (Own.below u5.out hb |>.alloc (.cells #[.int .i64 R, .int .i64 C', .slice A7 X.length p7] 26))
      clear u5
      have u14 := hide (ho |>.alloc (.cells #[.int .i64 R, .int .i64 C', .slice A7 X.length p7] 26))
      have HB15 := hide ((kb_call HB6.out (Nat.le_refl _) hb).alloc (by have := HB6.out.size; have := hb.size; omega) (.cells #[.int .i64 R, .int .i64 C', .slice A7 X.length p7] 26))
      have b16 := hide (Box3.new (x := .int .i64 R) (y := .int .i64 C') (z := .slice A7 X.length p7) w3 w3.heap.size 26 rfl)
      clear HB6
      clear ho hb c00 c01 c02 c10 c11 c12
      clear b16 u14
      obtain ⟨⟨c00, c01, c02⟩, _⟩ := b10.out
      go_wp2_with fail
      refine (T1.out _ _ _ (Own.sl2 u13.out)).mono ?_; rintro e w4 ⟨s, rfl, ho, hb⟩
      obtain ⟨A9, p9, rfl, _⟩ := Own.sl ho
      have b17 := hide (b8.out.call hb |>.alloc (.cells #[.int .i64 C', .int .i64 R, .slice A9 Y.length p9] 26))
      clear b8
      have b18 := hide (b9.out.call hb |>.alloc (.cells #[.int .i64 C', .int .i64 R, .slice A9 Y.length p9] 26))
      clear b9
      have b19 := hide (b10.out.call hb |>.alloc (.cells #[.int .i64 C', .int .i64 R, .slice A9 Y.length p9] 26))
      clear b10
      have u20 := hide (Own.below u11.out hb |>.alloc (.cells #[.int .i64 C', .int .i64 R, .slice A9 Y.length p9] 26))
      clear u11
      have u21 := hide (Own.below u12.out hb |>.alloc (.cells #[.int .i64 C', .int .i64 R, .slice A9 Y.length p9] 26))
      clear u12
      have u22 := hide (Own.below u13.out hb |>.alloc (.cells #[.int .i64 C', .int .i64 R, .slice A9 Y.length p9] 26))
      clear u13
      have u23 := hide (ho |>.alloc (.cells #[.int .i64 C', .int .i64 R, .slice A9 Y.length p9] 26))
      have HB24 := hide ((kb_call HB15.out (Nat.le_refl _) hb).alloc (by have := HB15.out.size; have := hb.size; omega) (.cells #[.int .i64 C', .int .i64 R, .slice A9 Y.length p9] 26))
      have b25 := hide (Box3.new (x := .int .i64 C') (y := .int .i64 R) (z := .slice A9 Y.length p9) w4 w4.heap.size 26 rfl)
      clear HB15
      clear ho hb c00 c01 c02
      obtain ⟨⟨c00, c01, c02⟩, _⟩ := b17.out
      go_wp2_with fail
      refine (T2.out _ _ _ (Own.sl2 u20.out)).mono ?_; rintro e w5 ⟨s, rfl, ho, hb⟩
      obtain ⟨A11, p11, rfl, _⟩ := Own.sl ho
      clear b17
      clear u20
      have b26 := hide (b18.out.call hb |>.alloc (.cells #[.int .i64 C, .int .i64 R, .slice A11 P.length p11] 26))
      clear b18
      have b27 := hide (b19.out.call hb |>.alloc (.cells #[.int .i64 C, .int .i64 R, .slice A11 P.length p11] 26))
      clear b19
      have b28 := hide (b25.out.call hb |>.alloc (.cells #[.int .i64 C, .int .i64 R, .slice A11 P.length p11] 26))
      clear b25
      have u29 := hide (Own.below u21.out hb |>.alloc (.cells #[.int .i64 C, .int .i64 R, .slice A11 P.length p11] 26))
      clear u21
      have u30 := hide (Own.below u22.out hb |>.alloc (.cells #[.int .i64 C, .int .i64 R, .slice A11 P.length p11] 26))
      clear u22
      have u31 := hide (Own.below u23.out hb |>.alloc (.cells #[.int .i64 C, .int .i64 R, .slice A11 P.length p11] 26))
      clear u23
      have u32 := hide (ho |>.alloc (.cells #[.int .i64 C, .int .i64 R, .slice A11 P.length p11] 26))
      have HB33 := hide ((kb_call HB24.out (Nat.le_refl _) hb).alloc (by have := HB24.out.size; have := hb.size; omega) (.cells #[.int .i64 C, .int .i64 R, .slice A11 P.length p11] 26))
      have b34 := hide (Box3.new (x := .int .i64 C) (y := .int .i64 R) (z := .slice A11 P.length p11) w5 w5.heap.size 26 rfl)
      clear HB24
      clear ho hb c00 c01 c02
      obtain ⟨⟨c00, c01, c02⟩, _⟩ := b26.out
      go_wp2_with fail
      refine (T3.out _ _ _ (Own.sl2 u29.out)).mono ?_; rintro e w6 ⟨s, rfl, ho, hb⟩
      obtain ⟨A13, p13, rfl, _⟩ := Own.sl ho
      clear b26
      clear u29
      have b35 := hide (b27.out.call hb |>.alloc (.cells #[.int .i64 C', .int .i64 C, .slice A13 Q.length p13] 26))
      clear b27
      have b36 := hide (b28.out.call hb |>.alloc (.cells #[.int .i64 C', .int .i64 C, .slice A13 Q.length p13] 26))
      clear b28
      have b37 := hide (b34.out.call hb |>.alloc (.cells #[.int .i64 C', .int .i64 C, .slice A13 Q.length p13] 26))
      clear b34
      have u38 := hide (Own.below u30.out hb |>.alloc (.cells #[.int .i64 C', .int .i64 C, .slice A13 Q.length p13] 26))
      clear u30
      have u39 := hide (Own.below u31.out hb |>.alloc (.cells #[.int .i64 C', .int .i64 C, .slice A13 Q.length p13] 26))
      clear u31
      have u40 := hide (Own.below u32.out hb |>.alloc (.cells #[.int .i64 C', .int .i64 C, .slice A13 Q.length p13] 26))
      clear u32
      have u41 := hide (ho |>.alloc (.cells #[.int .i64 C', .int .i64 C, .slice A13 Q.length p13] 26))
      have HB42 := hide ((kb_call HB33.out (Nat.le_refl _) hb).alloc (by have := HB33.out.size; have := hb.size; omega) (.cells #[.int .i64 C', .int .i64 C, .slice A13 Q.length p13] 26))
      have b43 := hide (Box3.new (x := .int .i64 C') (y := .int .i64 C) (z := .slice A13 Q.length p13) w6 w6.heap.size 26 rfl)
      clear HB33
      clear ho hb c00 c01 c02
      obtain ⟨⟨c00, c01, c02⟩, _⟩ := b43.out
      obtain ⟨⟨c10, c11, c12⟩, _⟩ := b37.out
      go_wp2_with fail
      refine (CM2.out _ _ _ _ _ (Own.sl2 u41.out) (Own.sl2 u40.out)).mono ?_; rintro e w7 ⟨s, rfl, ho, hb⟩
      obtain ⟨A15, p15, rfl, _⟩ := Own.sl ho
      clear b43
      clear b37
      clear u41
      clear u40
      have b44 := hide (b35.out.call hb |>.alloc (.cells #[.int .i64 C', .int .i64 R, .slice A15 Y.length p15] 26))
      clear b35
      have b45 := hide (b36.out.call hb |>.alloc (.cells #[.int .i64 C', .int .i64 R, .slice A15 Y.length p15] 26))
      clear b36
      have u46 := hide (Own.below u38.out hb |>.alloc (.cells #[.int .i64 C', .int .i64 R, .slice A15 Y.length p15] 26))
      clear u38
      have u47 := hide (Own.below u39.out hb |>.alloc (.cells #[.int .i64 C', .int .i64 R, .slice A15 Y.length p15] 26))
      clear u39
      have u48 := hide (ho |>.alloc (.cells #[.int .i64 C', .int .i64 R, .slice A15 Y.length p15] 26))
      have HB49 := hide ((kb_call HB42.out (Nat.le_refl _) hb).alloc (by have := HB42.out.size; have := hb.size; omega) (.cells #[.int .i64 C', .int .i64 R, .slice A15 Y.length p15] 26))
      have b50 := hide (Box3.new (x := .int .i64 C') (y := .int .i64 R) (z := .slice A15 Y.length p15) w7 w7.heap.size 26 rfl)
      clear HB42
      clear ho hb c00 c01 c02 c10 c11 c12
      obtain ⟨⟨c00, c01, c02⟩, _⟩ := b45.out
      go_wp2_with fail
      refine (T4.out _ _ _ (Own.sl2 u47.out)).mono ?_; rintro e w8 ⟨s, rfl, ho, hb⟩
      obtain ⟨A17, p17, rfl, _⟩ := Own.sl ho
      have b51 := hide (b44.out.call hb |>.alloc (.cells #[.int .i64 R, .int .i64 C', .slice A17 X.length p17] 26))
      clear b44
      have b52 := hide (b45.out.call hb |>.alloc (.cells #[.int .i64 R, .int .i64 C', .slice A17 X.length p17] 26))
      clear b45
      have b53 := hide (b50.out.call hb |>.alloc (.cells #[.int .i64 R, .int .i64 C', .slice A17 X.length p17] 26))
      clear b50
      have u54 := hide (Own.below u46.out hb |>.alloc (.cells #[.int .i64 R, .int .i64 C', .slice A17 X.length p17] 26))
      clear u46
      have u55 := hide (Own.below u47.out hb |>.alloc (.cells #[.int .i64 R, .int .i64 C', .slice A17 X.length p17] 26))
      clear u47
      have u56 := hide (Own.below u48.out hb |>.alloc (.cells #[.int .i64 R, .int .i64 C', .slice A17 X.length p17] 26))
      clear u48
      have u57 := hide (ho |>.alloc (.cells #[.int .i64 R, .int .i64 C', .slice A17 X.length p17] 26))
      have HB58 := hide ((kb_call HB49.out (Nat.le_refl _) hb).alloc (by have := HB49.out.size; have := hb.size; omega) (.cells #[.int .i64 R, .int .i64 C', .slice A17 X.length p17] 26))
      have b59 := hide (Box3.new (x := .int .i64 R) (y := .int .i64 C') (z := .slice A17 X.length p17) w8 w8.heap.size 26 rfl)
      clear HB49
      clear ho hb c00 c01 c02
      obtain ⟨⟨c00, c01, c02⟩, _⟩ := b52.out
      obtain ⟨⟨c10, c11, c12⟩, _⟩ := b53.out
      go_wp2_with fail
      refine (S1.out _ _ _ _ _ (Own.reads u55.out).2 (Own.reads u56.out).2).mono ?_; rintro e w9 ⟨rfl, hb⟩
      have b60 := hide (b51.out.call hb)
      clear b51
      have b61 := hide (b52.out.call hb)
      clear b52
      have b62 := hide (b53.out.call hb)
      clear b53
      have b63 := hide (b59.out.call hb)
      clear b59
      have u64 := hide (Own.below u54.out hb)
      clear u54
      have u65 := hide (Own.below u55.out hb)
      clear u55
      have u66 := hide (Own.below u56.out hb)
      clear u56
      have u67 := hide (Own.below u57.out hb)
      clear u57
      have HB68 := hide (kb_call HB58.out (Nat.le_refl _) hb)
      clear HB58
      clear hb c00 c01 c02 c10 c11 c12
      obtain ⟨⟨c00, c01, c02⟩, _⟩ := b63.out
      obtain ⟨⟨c10, c11, c12⟩, _⟩ := b60.out
      go_wp2_with fail
      refine (S2.out _ _ _ _ _ (Own.reads u67.out).2 (Own.reads u64.out).2).mono ?_; rintro e w10 ⟨rfl, hb⟩
      have b69 := hide (b60.out.call hb)
      clear b60
      have b70 := hide (b61.out.call hb)
      clear b61
      have b71 := hide (b62.out.call hb)
      clear b62
      have b72 := hide (b63.out.call hb)
      clear b63
      have u73 := hide (Own.below u64.out hb)
      clear u64
      have u74 := hide (Own.below u65.out hb)
      clear u65
      have u75 := hide (Own.below u66.out hb)
      clear u66
      have u76 := hide (Own.below u67.out hb)
      clear u67
      have HB77 := hide (kb_call HB68.out (Nat.le_refl _) hb)
      clear HB68
      clear hb c00 c01 c02 c10 c11 c12
      go_wp2
      go_returns
      exact ⟨rfl, HB77.out⟩
  · go_enter Try.func8, Try.ntmps8
    go_wp2_with fail
    refine (lawBig_yes A n cap _ (by omega) (by omega)).mono ?_; rintro e w0 ⟨rfl, rfl⟩
    go_wp2
    go_returns
    exact ⟨rfl, Below.refl _ _⟩
end Go.Proofs.Ytjopanbccfebnaa
