/- The walk of FnExactDoRowOp. -/
import Derived.Test.YthbmmoajfghjbaaDoSp
import Derived.Test.YthbmmoajfghjbaaOpLib
import Derived.Test.YthbmmoajfghjbaaRowLib
import Derived.Deep.RegionHeld3
import Derived.Deep.RegionWith
import Derived.Deep.DeepCutAuto
namespace Go.Proofs.Ythbmmoajfghjbaa
open Go.RowKit
set_option linter.unusedSimpArgs false
set_option linter.unusedVariables false
set_option maxRecDepth 100000 in
set_option maxHeartbeats 16000000 in
theorem lawFnExactDoRowOp (r c k i j t : Int) (hr0 : -9223372036854775808 ≤ r) (hr1 : r ≤ 9223372036854775807) (A : Option Addr) (p : Nat) (xs : List Int) (w : World) (hA : SlI w A xs) (hm : xs.length ≤ maxLen) :
    Calls Try.prog 4 #[mv r c (.slice A xs.length p), opv k i j t] w fun e w' => e = .returned (.bool true) ∧ Below w.heap.size w w' := by
  unfold maxLen at hm
  have HA := hide hA; clear hA
  by_cases hn : xs.length ≤ 1048576
  · have cs := fun A p w (h : Sl w A xs.length p xs) => specDoOp r c k i j t hr0 hr1 A p xs w h hn
    have ci := fun A p w (h : Sl w A xs.length p xs) => implDoOp r c k i j t A p xs w h hn
    have hX : (opRes r c xs k i j t).L.length ≤ 1048576 := DoRowOp_len
    obtain ⟨⟨R, C, XS, K⟩, hM⟩ : ∃ m, opRes r c xs k i j t = m := ⟨_, rfl⟩
    rw [hM] at cs ci hX
    have CS : Hid (∀ A p w, Sl w A xs.length p xs → Calls Try.prog 15 #[mv r c (.slice A xs.length p), opv k i j t] w (RetMat w R C XS K)) := cs
    have CI : Hid (∀ A p w, Sl w A xs.length p xs → Calls Try.prog 18 #[mv r c (.slice A xs.length p), opv k i j t] w (RetMat w R C XS K)) := ci
    have hX' : XS.length ≤ 1048576 := hX
    have eK : (K != K) = false := by simp
    clear cs ci hX hM
    have HBx : Hid (Below w.heap.size w ((w.alloc (.cells #[.int .i64 r, .int .i64 c, .slice A xs.length p] 32)).alloc (.cells #[.int .i64 k, .int .i64 i, .int .i64 j, .int .i64 t] 34))) := ((Below.refl _ _).alloc (Nat.le_refl _) _).alloc (by simp) _
    have b1_ := hide ((Box3.new (x := .int .i64 r) (y := .int .i64 c) (z := .slice A xs.length p) w w.heap.size 32 rfl).alloc (.cells #[.int .i64 k, .int .i64 i, .int .i64 j, .int .i64 t] 34))
    have x2_ := hide (OpBox.new (k := k) (i := i) (j := j) (t := t) (w.alloc (.cells #[.int .i64 r, .int .i64 c, .slice A xs.length p] 32)) (w.heap.size + 1) 34 (by simp))
    go_enter Try.func4, Try.ntmps4
    obtain ⟨⟨c0_0, c0_1, c0_2⟩, _⟩ := b1_.out
    go_wp2_with fail
    refine (szMatrix_yes r c A p xs.length 1048576 _ (by omega) (by omega) (by omega)).mono ?_; rintro e w2 ⟨rfl, hb⟩
    have b3_ := hide (b1_.out.call hb)
    clear b1_
    have x4_ := hide (x2_.out.call hb)
    clear x2_
    have HB5_ := hide (kb_call HBx.out (Nat.le_refl _) hb)
    clear HBx
    have z_1 := hb.size
    (try simp only [World.size_alloc, World.size_setCell, World.size_drew, size_drewN] at z_1)
    clear hb c0_0 c0_1 c0_2
    have HA2 := hide (SlI.below HA.out HB5_.out)
    go_wp2_with fail
    go_cut [6, 7] (fun s6 s7 wx => ∃ (g : Nat) (A0 : Option Addr) (z0 : Nat), s6 = .pointer (some ⟨g, 0, none⟩) ∧ s7 = .bool K ∧ w2.heap.size ≤ g ∧ Box3 wx g (.int .i64 R) (.int .i64 C) (.slice A0 XS.length z0) ∧ Own wx w2.heap.size (.slice A0 XS.length z0) XS ∧ (∀ q, (Value.slice A0 XS.length z0).ownBlock = some q → q ≠ g) ∧ Below w2.heap.size w2 wx)
    case first =>
      rename_i K0 hK0 J0 K1 hJ0 hM0
      clear hK0 K0
      clear CI eK hX'
      have KS : Hid (∀ w', Below w2.heap.size w2 w' → w'.cell? ⟨w.heap.size, 0, none⟩ = some (.int .i64 r) ∧ w'.cell? ⟨w.heap.size, 1, none⟩ = some (.int .i64 c) ∧ w'.cell? ⟨w.heap.size, 2, none⟩ = some (.slice A xs.length p) ∧ w'.cell? ⟨w.heap.size + 1, 0, none⟩ = some (.int .i64 k) ∧ w'.cell? ⟨w.heap.size + 1, 1, none⟩ = some (.int .i64 i) ∧ w'.cell? ⟨w.heap.size + 1, 2, none⟩ = some (.int .i64 j) ∧ w'.cell? ⟨w.heap.size + 1, 3, none⟩ = some (.int .i64 t) ∧ Below w2.heap.size w2 w') := fun w' h => by
        obtain ⟨⟨x0, x1, x2⟩, _⟩ := b3_.out.call h
        obtain ⟨y0, y1, y2, y3⟩ := x4_.out.call h
        exact ⟨x0, x1, x2, y0, y1, y2, y3, h⟩
      go_region_held3 (fun w' => w'.cell? ⟨w.heap.size, 0, none⟩ = some (.int .i64 r) ∧ w'.cell? ⟨w.heap.size, 1, none⟩ = some (.int .i64 c) ∧ w'.cell? ⟨w.heap.size, 2, none⟩ = some (.slice A xs.length p) ∧ w'.cell? ⟨w.heap.size + 1, 0, none⟩ = some (.int .i64 k) ∧ w'.cell? ⟨w.heap.size + 1, 1, none⟩ = some (.int .i64 i) ∧ w'.cell? ⟨w.heap.size + 1, 2, none⟩ = some (.int .i64 j) ∧ w'.cell? ⟨w.heap.size + 1, 3, none⟩ = some (.int .i64 t) ∧ Below w2.heap.size w2 w')
        (first
          | (with_reducible exact KS.out _ (Below.drew (Below.refl _ _)))
          | (with_reducible exact KS.out _ (Below.drew (Below.alloc (Below.refl _ _) (Nat.le_refl _) _)))
          | (have hh := (‹_ ∧ _ ∧ _ ∧ _ ∧ _ ∧ _ ∧ _ ∧ Below w2.heap.size w2 _›).2.2.2.2.2.2.2
             first
             | (with_reducible exact KS.out _ (kb_call hh (Nat.le_refl _) hb))
             | (with_reducible exact KS.out _ (Below.alloc hh hh.size _))
             | exact KS.out _ (kb_swap hh (by omega))
             | exact KS.out _ (((hh.setCell (by dsimp only; omega) _).setCell (by dsimp only; omega) _).setCell (by dsimp only; omega) _)))
        (first
          | (go_at_call 16; have hh := (‹_ ∧ _ ∧ _ ∧ _ ∧ _ ∧ _ ∧ _ ∧ Below w2.heap.size w2 _›).2.2.2.2.2.2.2; (with_reducible refine (toMatrix r c A p xs _ (SlI.below HA2.out hh) hn).mono ?_); rintro e w1 ⟨rfl, ho, hb⟩; have hz := hb.size; (try simp only [World.size_alloc, World.size_setCell, World.size_drew, size_drewN] at hz ho); have HOA := hide ho; (first | have GB := hide (Box3.call (Box3.new (x := .int .i64 0) (y := .int .i64 0) (z := .slice none 0 0) _ _ _ rfl) hb) | have GB := hide (Box3.call (Box3.drew (Box3.new (x := .int .i64 0) (y := .int .i64 0) (z := .slice none 0 0) _ _ _ rfl)) hb) | have GB := hide (Box3.call GB.out hb) | skip); clear ho hh)
          | (go_at_call 17; (with_reducible refine (toRowOp k i j t _).mono ?_); rintro e w1 ⟨rfl, hb⟩; have hz := hb.size; (try simp only [World.size_alloc, World.size_setCell, World.size_drew, size_drewN] at hz); (first | have GB := hide (Box3.call (Box3.new (x := .int .i64 0) (y := .int .i64 0) (z := .slice none 0 0) _ _ _ rfl) hb) | have GB := hide (Box3.call (Box3.drew (Box3.new (x := .int .i64 0) (y := .int .i64 0) (z := .slice none 0 0) _ _ _ rfl)) hb) | have GB := hide (Box3.call GB.out hb) | skip); first | have HOA := hide (Own.below HOA.out hb) | have HOA := hide (Own.below (Own.alloc HOA.out _) hb))
          | (go_at_call 15; (with_reducible refine (CS.out _ _ _ (Own.sl2 (by first | exact HOA.out | exact Own.alloc HOA.out _))).mono ?_); rintro e w1 ⟨s0, rfl, ho, hb⟩; have hz := hb.size; (try simp only [World.size_alloc, World.size_setCell, World.size_drew, size_drewN] at hz ho); obtain ⟨A0, z0, rfl, _⟩ := Own.sl ho; have hlo := Own.lt ho; have HO := hide ho; (first | have GB := hide (Box3.call (Box3.new (x := .int .i64 0) (y := .int .i64 0) (z := .slice none 0 0) _ _ _ rfl) hb) | have GB := hide (Box3.call (Box3.drew (Box3.new (x := .int .i64 0) (y := .int .i64 0) (z := .slice none 0 0) _ _ _ rfl)) hb) | have GB := hide (Box3.call GB.out hb) | skip); (try obtain ⟨⟨g0, g1, g2⟩, f0, f1, f2⟩ := GB.out); clear ho))
      all_goals (have hh := (‹_ ∧ _ ∧ _ ∧ _ ∧ _ ∧ _ ∧ _ ∧ Below w2.heap.size w2 _›).2.2.2.2.2.2.2; have HH := hide hh; clear hh KS)
      all_goals go_wp2_with fail
      all_goals go_meet
      all_goals (refine ⟨_, A0, z0, rfl, rfl, by omega, ?_, ?_, fun q e => by have := hlo q e; (try dsimp only); omega, HH.out⟩)
      all_goals first
        | (with_reducible exact Box3.stored GB.out _ _ _)
        | (with_reducible exact Box3.new _ _ _ rfl)
        | (with_reducible refine Own.mono (Own.alloc HO.out _) ?_; omega)
        | (with_reducible refine Own.mono (Own.set (Own.set (Own.set HO.out (own_nl hlo ?_) _) (own_nl hlo ?_) _) (own_nl hlo ?_) _) ?_ <;> first | omega | (dsimp only; omega))
    case rest =>
      obtain ⟨g, A0, z0, rfl, rfl, hg, kg, ho, hn0, hB⟩ := hcut
      obtain ⟨wa, rfl⟩ : ∃ wa, wa = wc := ⟨_, rfl⟩
      have hgl := kg.lt
      have hl0 := Own.lt ho
      have b6_ := hide (b3_.out.call hB)
      clear b3_
      have x7_ := hide (x4_.out.call hB)
      clear x4_
      have HB8_ := hide (kb_call HB5_.out (Nat.le_refl _) hB)
      clear HB5_
      have z_2 := hB.size
      (try simp only [World.size_alloc, World.size_setCell, World.size_drew, size_drewN] at z_2)
      have b9_ := hide (kg)
      have u10_ := hide (ho)
      clear hB kg ho HA2
      obtain ⟨⟨c0_0, c0_1, c0_2⟩, _⟩ := b6_.out
      go_wp2_with fail
      refine (toMatrix r c A p xs _ (SlI.below HA.out HB8_.out) hn).mono ?_; rintro e w5 ⟨rfl, ho, hb⟩
      have hlx := Own.lt ho
      have b11_ := hide (b6_.out.call hb |>.alloc (.cells #[.int .i64 r, .int .i64 c, .slice (some ⟨wa.heap.size + 3, 0, none⟩) xs.length xs.length] 36))
      clear b6_
      have x12_ := hide (x7_.out.call hb |>.alloc (.cells #[.int .i64 r, .int .i64 c, .slice (some ⟨wa.heap.size + 3, 0, none⟩) xs.length xs.length] 36))
      clear x7_
      have b13_ := hide (b9_.out.call hb |>.alloc (.cells #[.int .i64 r, .int .i64 c, .slice (some ⟨wa.heap.size + 3, 0, none⟩) xs.length xs.length] 36))
      clear b9_
      have u14_ := hide (Own.below u10_.out hb |>.alloc (.cells #[.int .i64 r, .int .i64 c, .slice (some ⟨wa.heap.size + 3, 0, none⟩) xs.length xs.length] 36))
      clear u10_
      have HB15_ := hide ((kb_call HB8_.out (Nat.le_refl _) hb).alloc (by have := HB8_.out.size; have := hb.size; omega) (.cells #[.int .i64 r, .int .i64 c, .slice (some ⟨wa.heap.size + 3, 0, none⟩) xs.length xs.length] 36))
      clear HB8_
      have z_3 := hb.size
      (try simp only [World.size_alloc, World.size_setCell, World.size_drew, size_drewN] at z_3)
      have b16_ := hide (Box3.new (x := .int .i64 r) (y := .int .i64 c) (z := .slice (some ⟨wa.heap.size + 3, 0, none⟩) xs.length xs.length) w5 w5.heap.size 36 rfl)
      have u17_ := hide (ho |>.alloc (.cells #[.int .i64 r, .int .i64 c, .slice (some ⟨wa.heap.size + 3, 0, none⟩) xs.length xs.length] 36))
      clear hb ho c0_0 c0_1 c0_2
      go_wp2_with fail
      obtain ⟨w6, h6⟩ : ∃ W, w5.alloc (.cells #[.int .i64 r, .int .i64 c, .slice (some ⟨wa.heap.size + 3, 0, none⟩) xs.length xs.length] 36) = W := ⟨_, rfl⟩
      rw [h6]
      have t_ := b11_.out
      rw [h6] at t_
      have b18_ := hide t_
      clear b11_ t_
      have t_ := x12_.out
      rw [h6] at t_
      have x19_ := hide t_
      clear x12_ t_
      have t_ := b13_.out
      rw [h6] at t_
      have b20_ := hide t_
      clear b13_ t_
      have t_ := u14_.out
      rw [h6] at t_
      have u21_ := hide t_
      clear u14_ t_
      have t_ := b16_.out
      rw [h6] at t_
      have b22_ := hide t_
      clear b16_ t_
      have t_ := u17_.out
      rw [h6] at t_
      have u23_ := hide t_
      clear u17_ t_
      have t_ := HB15_.out
      rw [h6] at t_
      have HB24_ := hide t_
      clear HB15_ t_
      have z_6a : w5.heap.size + 1 ≤ w6.heap.size := by rw [← h6]; simp
      clear h6
      go_cut [9, 10] (fun s6 s7 wx => ∃ (g : Nat) (A0 : Option Addr) (z0 : Nat), s6 = .pointer (some ⟨g, 0, none⟩) ∧ s7 = .bool K ∧ w6.heap.size ≤ g ∧ Box3 wx g (.int .i64 R) (.int .i64 C) (.slice A0 XS.length z0) ∧ Own wx w6.heap.size (.slice A0 XS.length z0) XS ∧ (∀ q, (Value.slice A0 XS.length z0).ownBlock = some q → q ≠ g) ∧ Below w6.heap.size w6 wx)
      case first =>
        rename_i K0 hK0 J0 K1 hJ0 hM0
        clear hK0 K0
        clear CS eK hX'
        have KS : Hid (∀ w', Below w6.heap.size w6 w' → w'.cell? ⟨w5.heap.size, 0, none⟩ = some (.int .i64 r) ∧ w'.cell? ⟨w5.heap.size, 1, none⟩ = some (.int .i64 c) ∧ w'.cell? ⟨w5.heap.size, 2, none⟩ = some (.slice (some ⟨wa.heap.size + 3, 0, none⟩) xs.length xs.length) ∧ w'.cell? ⟨w.heap.size + 1, 0, none⟩ = some (.int .i64 k) ∧ w'.cell? ⟨w.heap.size + 1, 1, none⟩ = some (.int .i64 i) ∧ w'.cell? ⟨w.heap.size + 1, 2, none⟩ = some (.int .i64 j) ∧ w'.cell? ⟨w.heap.size + 1, 3, none⟩ = some (.int .i64 t) ∧ Below w6.heap.size w6 w') := fun w' h => by
          obtain ⟨⟨x0, x1, x2⟩, _⟩ := b22_.out.call h
          obtain ⟨y0, y1, y2, y3⟩ := x19_.out.call h
          exact ⟨x0, x1, x2, y0, y1, y2, y3, h⟩
        go_region_held3 (fun w' => w'.cell? ⟨w5.heap.size, 0, none⟩ = some (.int .i64 r) ∧ w'.cell? ⟨w5.heap.size, 1, none⟩ = some (.int .i64 c) ∧ w'.cell? ⟨w5.heap.size, 2, none⟩ = some (.slice (some ⟨wa.heap.size + 3, 0, none⟩) xs.length xs.length) ∧ w'.cell? ⟨w.heap.size + 1, 0, none⟩ = some (.int .i64 k) ∧ w'.cell? ⟨w.heap.size + 1, 1, none⟩ = some (.int .i64 i) ∧ w'.cell? ⟨w.heap.size + 1, 2, none⟩ = some (.int .i64 j) ∧ w'.cell? ⟨w.heap.size + 1, 3, none⟩ = some (.int .i64 t) ∧ Below w6.heap.size w6 w')
          (first
            | (with_reducible exact KS.out _ (Below.drew (Below.refl _ _)))
            | (with_reducible exact KS.out _ (Below.drew (Below.alloc (Below.refl _ _) (Nat.le_refl _) _)))
            | (have hh := (‹_ ∧ _ ∧ _ ∧ _ ∧ _ ∧ _ ∧ _ ∧ Below w6.heap.size w6 _›).2.2.2.2.2.2.2
               first
               | (with_reducible exact KS.out _ (kb_call hh (Nat.le_refl _) hb))
               | (with_reducible exact KS.out _ (Below.alloc hh hh.size _))
               | exact KS.out _ (kb_swap hh (by omega))
               | exact KS.out _ (((hh.setCell (by dsimp only; omega) _).setCell (by dsimp only; omega) _).setCell (by dsimp only; omega) _)))
          (first
            | (go_at_call 17; (with_reducible refine (toRowOp k i j t _).mono ?_); rintro e w1 ⟨rfl, hb⟩; have hz := hb.size; (try simp only [World.size_alloc, World.size_setCell, World.size_drew, size_drewN] at hz); (first | have GB := hide (Box3.call (Box3.new (x := .int .i64 0) (y := .int .i64 0) (z := .slice none 0 0) _ _ _ rfl) hb) | have GB := hide (Box3.call (Box3.drew (Box3.new (x := .int .i64 0) (y := .int .i64 0) (z := .slice none 0 0) _ _ _ rfl)) hb) | have GB := hide (Box3.call GB.out hb) | skip); first | have HOA := hide (Own.below (own_drew u23_.out) hb) | have HOA := hide (Own.below (own_drew (Own.alloc u23_.out _)) hb))
            | (go_at_call 18; (with_reducible refine (CI.out _ _ _ (Own.sl2 (by first | exact HOA.out | exact Own.alloc HOA.out _))).mono ?_); rintro e w1 ⟨s0, rfl, ho, hb⟩; have hz := hb.size; (try simp only [World.size_alloc, World.size_setCell, World.size_drew, size_drewN] at hz ho); obtain ⟨A0, z0, rfl, _⟩ := Own.sl ho; have hlo := Own.lt ho; have HO := hide ho; (first | have GB := hide (Box3.call (Box3.new (x := .int .i64 0) (y := .int .i64 0) (z := .slice none 0 0) _ _ _ rfl) hb) | have GB := hide (Box3.call (Box3.drew (Box3.new (x := .int .i64 0) (y := .int .i64 0) (z := .slice none 0 0) _ _ _ rfl)) hb) | have GB := hide (Box3.call GB.out hb) | skip); (try obtain ⟨⟨g0, g1, g2⟩, f0, f1, f2⟩ := GB.out); clear ho))
        all_goals (have hh := (‹_ ∧ _ ∧ _ ∧ _ ∧ _ ∧ _ ∧ _ ∧ Below w6.heap.size w6 _›).2.2.2.2.2.2.2; have HH := hide hh; clear hh KS)
        all_goals go_wp2_with fail
        all_goals go_meet
        all_goals (refine ⟨_, A0, z0, rfl, rfl, by omega, ?_, ?_, fun q e => by have := hlo q e; (try dsimp only); omega, HH.out⟩)
        all_goals first
          | (with_reducible exact Box3.stored GB.out _ _ _)
          | (with_reducible exact Box3.new _ _ _ rfl)
          | (with_reducible refine Own.mono (Own.alloc HO.out _) ?_; omega)
          | (with_reducible refine Own.mono (Own.set (Own.set (Own.set HO.out (own_nl hlo ?_) _) (own_nl hlo ?_) _) (own_nl hlo ?_) _) ?_ <;> first | omega | (dsimp only; omega))
      case rest =>
        obtain ⟨g', A1, z1, rfl, rfl, hg', kg, ho, hn1, hB⟩ := hcut
        obtain ⟨wb, rfl⟩ : ∃ wb, wb = wc := ⟨_, rfl⟩
        have hgl' := kg.lt
        have hl1 := Own.lt ho
        have b25_ := hide (b18_.out.call hB)
        clear b18_
        have x26_ := hide (x19_.out.call hB)
        clear x19_
        have b27_ := hide (b20_.out.call hB)
        clear b20_
        have u28_ := hide (Own.below u21_.out hB)
        clear u21_
        have b29_ := hide (b22_.out.call hB)
        clear b22_
        have u30_ := hide (Own.below u23_.out hB)
        clear u23_
        have HB31_ := hide (kb_call HB24_.out (Nat.le_refl _) hB)
        clear HB24_
        have z_4 := hB.size
        (try simp only [World.size_alloc, World.size_setCell, World.size_drew, size_drewN] at z_4)
        have b32_ := hide (kg)
        have u33_ := hide (ho)
        clear hB kg ho
        obtain ⟨⟨c0_0, c0_1, c0_2⟩, _⟩ := b32_.out
        obtain ⟨⟨c1_0, c1_1, c1_2⟩, _⟩ := b27_.out
        go_wp2_with fail
        refine (eqMatrix_own R C _ _ _ _ XS _ u33_.out u28_.out (by omega)).mono ?_; rintro e w8 ⟨rfl, hb⟩
        have b34_ := hide (b25_.out.call hb)
        clear b25_
        have x35_ := hide (x26_.out.call hb)
        clear x26_
        have b36_ := hide (b27_.out.call hb)
        clear b27_
        have u37_ := hide (Own.below u28_.out hb)
        clear u28_
        have b38_ := hide (b29_.out.call hb)
        clear b29_
        have u39_ := hide (Own.below u30_.out hb)
        clear u30_
        have b40_ := hide (b32_.out.call hb)
        clear b32_
        have u41_ := hide (Own.below u33_.out hb)
        clear u33_
        have HB42_ := hide (kb_call HB31_.out (Nat.le_refl _) hb)
        clear HB31_
        have z_5 := hb.size
        (try simp only [World.size_alloc, World.size_setCell, World.size_drew, size_drewN] at z_5)
        clear hb c0_0 c0_1 c0_2 c1_0 c1_1 c1_2
        have HA8 := hide (SlI.below HA.out HB42_.out)
        have HX8 := hide (Own.reads u39_.out).2
        have KS : Hid (∀ w', Below w8.heap.size w8 w' → w'.cell? ⟨w.heap.size, 0, none⟩ = some (.int .i64 r) ∧ w'.cell? ⟨w.heap.size, 1, none⟩ = some (.int .i64 c) ∧ w'.cell? ⟨w.heap.size, 2, none⟩ = some (.slice A xs.length p) ∧ w'.cell? ⟨w5.heap.size, 0, none⟩ = some (.int .i64 r) ∧ w'.cell? ⟨w5.heap.size, 1, none⟩ = some (.int .i64 c) ∧ w'.cell? ⟨w5.heap.size, 2, none⟩ = some (.slice (some ⟨wa.heap.size + 3, 0, none⟩) xs.length xs.length) ∧ Below w8.heap.size w8 w') := fun w' h => by
          obtain ⟨⟨x0, x1, x2⟩, _⟩ := b34_.out.call h
          obtain ⟨⟨y0, y1, y2⟩, _⟩ := b38_.out.call h
          exact ⟨x0, x1, x2, y0, y1, y2, h⟩
        go_wp2_with fail
        go_region_held3 (fun w' => w'.cell? ⟨w.heap.size, 0, none⟩ = some (.int .i64 r) ∧ w'.cell? ⟨w.heap.size, 1, none⟩ = some (.int .i64 c) ∧ w'.cell? ⟨w.heap.size, 2, none⟩ = some (.slice A xs.length p) ∧ w'.cell? ⟨w5.heap.size, 0, none⟩ = some (.int .i64 r) ∧ w'.cell? ⟨w5.heap.size, 1, none⟩ = some (.int .i64 c) ∧ w'.cell? ⟨w5.heap.size, 2, none⟩ = some (.slice (some ⟨wa.heap.size + 3, 0, none⟩) xs.length xs.length) ∧ Below w8.heap.size w8 w')
          (first
            | (with_reducible exact KS.out _ (Below.drew (Below.refl _ _)))
            | (have hh := (‹_ ∧ _ ∧ _ ∧ _ ∧ _ ∧ _ ∧ Below w8.heap.size w8 _›).2.2.2.2.2.2; with_reducible exact KS.out _ (kb_call hh (Nat.le_refl _) hb)))
          (first
            | (go_at_call 16; have hh := (‹_ ∧ _ ∧ _ ∧ _ ∧ _ ∧ _ ∧ Below w8.heap.size w8 _›).2.2.2.2.2.2; (with_reducible refine (toMatrix r c A p xs _ (SlI.below HA8.out hh) hn).mono ?_); rintro e w9 ⟨rfl, ho, hb⟩; (try simp only [World.size_drew, size_drewN] at ho); have H3 := hide ho; clear ho hh)
            | (go_at_call 19; have hh := (‹_ ∧ _ ∧ _ ∧ _ ∧ _ ∧ _ ∧ Below w8.heap.size w8 _›).2.2.2.2.2.2; (with_reducible refine (eqMatrix_same r c _ _ _ _ xs _ (SlI.below HX8.out hh) (Own.reads H3.out).2 hn).mono ?_); rintro e w10 ⟨rfl, hb⟩; clear hh))
        have hh := (‹_ ∧ _ ∧ _ ∧ _ ∧ _ ∧ _ ∧ Below w8.heap.size w8 _›).2.2.2.2.2.2
        clear KS HA8 HX8 H3 hb
        have b43_ := hide (b34_.out.call hh)
        clear b34_
        have x44_ := hide (x35_.out.call hh)
        clear x35_
        have b45_ := hide (b36_.out.call hh)
        clear b36_
        have u46_ := hide (Own.below u37_.out hh)
        clear u37_
        have b47_ := hide (b38_.out.call hh)
        clear b38_
        have u48_ := hide (Own.below u39_.out hh)
        clear u39_
        have b49_ := hide (b40_.out.call hh)
        clear b40_
        have u50_ := hide (Own.below u41_.out hh)
        clear u41_
        have HB51_ := hide (kb_call HB42_.out (Nat.le_refl _) hh)
        clear HB42_
        have z_6 := hh.size
        (try simp only [World.size_alloc, World.size_setCell, World.size_drew, size_drewN] at z_6)
        clear hh
        obtain ⟨⟨c0_0, c0_1, c0_2⟩, _⟩ := b47_.out
        go_wp2_with fail
        refine (markMatrix r c _ _ xs 1 _ u48_.out (by omega) (by omega) (by omega)).mono ?_; rintro e w13 ⟨rfl, ho, hg⟩
        have z_7 := hg.size
        have b52_ := hide (b43_.out.grown hg (fun e => by first | (have := hlx _ e.symm; omega) | exact hn1 _ e.symm rfl))
        clear b43_
        have x53_ := hide (x44_.out.grown hg (fun e => by first | (have := hlx _ e.symm; omega) | exact hn1 _ e.symm rfl))
        clear x44_
        have b54_ := hide (b45_.out.grown hg (fun e => by first | (have := hlx _ e.symm; omega) | exact hn1 _ e.symm rfl))
        clear b45_
        have u55_ := hide (keepS hg hlx u46_.out hl0 (by omega))
        clear u46_
        have b56_ := hide (b47_.out.grown hg (fun e => by first | (have := hlx _ e.symm; omega) | exact hn1 _ e.symm rfl))
        clear b47_
        have u57_ := hide ho
        clear u48_
        have b58_ := hide (b49_.out.grown hg (fun e => by first | (have := hlx _ e.symm; omega) | exact hn1 _ e.symm rfl))
        clear b49_
        have u59_ := hide (keepS hg hlx u50_.out hl1 (by omega))
        clear u50_
        have HB60_ := hide (below_mark HB51_.out hg hlx (by omega) (by omega))
        clear HB51_
        clear hg ho c0_0 c0_1 c0_2
        clear b56_
        clear u57_
        obtain ⟨⟨c0_0, c0_1, c0_2⟩, _⟩ := b58_.out
        obtain ⟨⟨c1_0, c1_1, c1_2⟩, _⟩ := b54_.out
        go_wp2_with fail
        refine (eqMatrix_own R C _ _ _ _ XS _ u59_.out u55_.out (by omega)).mono ?_; rintro e w14 ⟨rfl, hb⟩
        have b61_ := hide (b52_.out.call hb)
        clear b52_
        have x62_ := hide (x53_.out.call hb)
        clear x53_
        have b63_ := hide (b54_.out.call hb)
        clear b54_
        have u64_ := hide (Own.below u55_.out hb)
        clear u55_
        have b65_ := hide (b58_.out.call hb)
        clear b58_
        have u66_ := hide (Own.below u59_.out hb)
        clear u59_
        have HB67_ := hide (kb_call HB60_.out (Nat.le_refl _) hb)
        clear HB60_
        have z_8 := hb.size
        (try simp only [World.size_alloc, World.size_setCell, World.size_drew, size_drewN] at z_8)
        clear hb c0_0 c0_1 c0_2 c1_0 c1_1 c1_2
        obtain ⟨⟨c0_0, c0_1, c0_2⟩, _⟩ := b65_.out
        go_wp2_with fail
        refine (markMatrix R C _ _ XS 1 _ u66_.out (by omega) (by omega) (by omega)).mono ?_; rintro e w15 ⟨rfl, ho, hg⟩
        have z_9 := hg.size
        have b68_ := hide (b61_.out.grown hg (fun e => by first | (have := hl1 _ e.symm; omega) | exact hn1 _ e.symm rfl))
        clear b61_
        have x69_ := hide (x62_.out.grown hg (fun e => by first | (have := hl1 _ e.symm; omega) | exact hn1 _ e.symm rfl))
        clear x62_
        have b70_ := hide (b63_.out.grown hg (fun e => by first | (have := hl1 _ e.symm; omega) | exact hn1 _ e.symm rfl))
        clear b63_
        have u71_ := hide (keepS hg hl1 u64_.out hl0 (by omega))
        clear u64_
        have b72_ := hide (b65_.out.grown hg (fun e => by first | (have := hl1 _ e.symm; omega) | exact hn1 _ e.symm rfl))
        clear b65_
        have u73_ := hide ho
        clear u66_
        have HB74_ := hide (below_mark HB67_.out hg hl1 (by omega) (by omega))
        clear HB67_
        clear hg ho c0_0 c0_1 c0_2
        have eM : ((1 + (XS.length : Int)) != (1 + (XS.length : Int))) = false := by simp
        obtain ⟨⟨c0_0, c0_1, c0_2⟩, _⟩ := b72_.out
        go_wp2_with fail
        refine (heldMatrix_own R C _ _ 1 XS.length _ u73_.out (by omega) (by omega) (by omega)).mono ?_; rintro e w16 ⟨rfl, hb⟩
        have b75_ := hide (b68_.out.call hb)
        clear b68_
        have x76_ := hide (x69_.out.call hb)
        clear x69_
        have b77_ := hide (b70_.out.call hb)
        clear b70_
        have u78_ := hide (Own.below u71_.out hb)
        clear u71_
        have b79_ := hide (b72_.out.call hb)
        clear b72_
        have u80_ := hide (Own.below u73_.out hb)
        clear u73_
        have HB81_ := hide (kb_call HB74_.out (Nat.le_refl _) hb)
        clear HB74_
        have z_10 := hb.size
        (try simp only [World.size_alloc, World.size_setCell, World.size_drew, size_drewN] at z_10)
        clear hb c0_0 c0_1 c0_2
        have HA16 := hide (SlI.below HA.out HB81_.out)
        have t0 : w.heap.size < w16.heap.size := by omega
        go_wp2_with fail
        go_cut [14, 15] (fun s6 s7 wx => ∃ (g : Nat) (A0 : Option Addr) (z0 : Nat), s6 = .pointer (some ⟨g, 0, none⟩) ∧ s7 = .bool K ∧ w16.heap.size ≤ g ∧ Box3 wx g (.int .i64 R) (.int .i64 C) (.slice A0 XS.length z0) ∧ Own wx w16.heap.size (.slice A0 XS.length z0) XS ∧ (∀ q, (Value.slice A0 XS.length z0).ownBlock = some q → q ≠ g) ∧ Below w16.heap.size w16 wx)
        case first =>
          rename_i K0 hK0 J0 K1 hJ0 hM0
          clear hK0 K0
          clear CS eK eM hX' hl0 hl1 hlx
          have KS : Hid (∀ w', Below w16.heap.size w16 w' → w'.cell? ⟨w.heap.size, 0, none⟩ = some (.int .i64 r) ∧ w'.cell? ⟨w.heap.size, 1, none⟩ = some (.int .i64 c) ∧ w'.cell? ⟨w.heap.size, 2, none⟩ = some (.slice A xs.length p) ∧ w'.cell? ⟨w.heap.size + 1, 0, none⟩ = some (.int .i64 k) ∧ w'.cell? ⟨w.heap.size + 1, 1, none⟩ = some (.int .i64 i) ∧ w'.cell? ⟨w.heap.size + 1, 2, none⟩ = some (.int .i64 j) ∧ w'.cell? ⟨w.heap.size + 1, 3, none⟩ = some (.int .i64 t) ∧ Below w16.heap.size w16 w') := fun w' h => by
            obtain ⟨⟨x0, x1, x2⟩, _⟩ := b75_.out.call h
            obtain ⟨y0, y1, y2, y3⟩ := x76_.out.call h
            exact ⟨x0, x1, x2, y0, y1, y2, y3, h⟩
          go_region_held3 (fun w' => w'.cell? ⟨w.heap.size, 0, none⟩ = some (.int .i64 r) ∧ w'.cell? ⟨w.heap.size, 1, none⟩ = some (.int .i64 c) ∧ w'.cell? ⟨w.heap.size, 2, none⟩ = some (.slice A xs.length p) ∧ w'.cell? ⟨w.heap.size + 1, 0, none⟩ = some (.int .i64 k) ∧ w'.cell? ⟨w.heap.size + 1, 1, none⟩ = some (.int .i64 i) ∧ w'.cell? ⟨w.heap.size + 1, 2, none⟩ = some (.int .i64 j) ∧ w'.cell? ⟨w.heap.size + 1, 3, none⟩ = some (.int .i64 t) ∧ Below w16.heap.size w16 w')
            (first
              | (with_reducible exact KS.out _ (Below.drew (Below.refl _ _)))
              | (with_reducible exact KS.out _ (Below.drew (Below.alloc (Below.refl _ _) (Nat.le_refl _) _)))
              | (have hh := (‹_ ∧ _ ∧ _ ∧ _ ∧ _ ∧ _ ∧ _ ∧ Below w16.heap.size w16 _›).2.2.2.2.2.2.2
                 first
                 | (with_reducible exact KS.out _ (kb_call hh (Nat.le_refl _) hb))
                 | (with_reducible exact KS.out _ (Below.alloc hh hh.size _))
                 | exact KS.out _ (kb_swap hh (by omega))
                 | exact KS.out _ (((hh.setCell (by dsimp only; omega) _).setCell (by dsimp only; omega) _).setCell (by dsimp only; omega) _)))
            (first
              | (go_at_call 16; have hh := (‹_ ∧ _ ∧ _ ∧ _ ∧ _ ∧ _ ∧ _ ∧ Below w16.heap.size w16 _›).2.2.2.2.2.2.2; (with_reducible refine (toMatrix r c A p xs _ (SlI.below HA16.out hh) hn).mono ?_); rintro e w1 ⟨rfl, ho, hb⟩; have hz := hb.size; (try simp only [World.size_alloc, World.size_setCell, World.size_drew, size_drewN] at hz ho); have HOA := hide ho; (first | have GB := hide (Box3.call (Box3.new (x := .int .i64 0) (y := .int .i64 0) (z := .slice none 0 0) _ _ _ rfl) hb) | have GB := hide (Box3.call (Box3.drew (Box3.new (x := .int .i64 0) (y := .int .i64 0) (z := .slice none 0 0) _ _ _ rfl)) hb) | have GB := hide (Box3.call GB.out hb) | skip); clear ho hh)
              | (go_at_call 17; (with_reducible refine (toRowOp k i j t _).mono ?_); rintro e w1 ⟨rfl, hb⟩; have hz := hb.size; (try simp only [World.size_alloc, World.size_setCell, World.size_drew, size_drewN] at hz); (first | have GB := hide (Box3.call (Box3.new (x := .int .i64 0) (y := .int .i64 0) (z := .slice none 0 0) _ _ _ rfl) hb) | have GB := hide (Box3.call (Box3.drew (Box3.new (x := .int .i64 0) (y := .int .i64 0) (z := .slice none 0 0) _ _ _ rfl)) hb) | have GB := hide (Box3.call GB.out hb) | skip); first | have HOA := hide (Own.below HOA.out hb) | have HOA := hide (Own.below (Own.alloc HOA.out _) hb))
              | (go_at_call 18; (with_reducible refine (CI.out _ _ _ (Own.sl2 (by first | exact HOA.out | exact Own.alloc HOA.out _))).mono ?_); rintro e w1 ⟨s0, rfl, ho, hb⟩; have hz := hb.size; (try simp only [World.size_alloc, World.size_setCell, World.size_drew, size_drewN] at hz ho); obtain ⟨A0, z0, rfl, _⟩ := Own.sl ho; have hlo := Own.lt ho; have HO := hide ho; (first | have GB := hide (Box3.call (Box3.new (x := .int .i64 0) (y := .int .i64 0) (z := .slice none 0 0) _ _ _ rfl) hb) | have GB := hide (Box3.call (Box3.drew (Box3.new (x := .int .i64 0) (y := .int .i64 0) (z := .slice none 0 0) _ _ _ rfl)) hb) | have GB := hide (Box3.call GB.out hb) | skip); (try obtain ⟨⟨g0, g1, g2⟩, f0, f1, f2⟩ := GB.out); clear ho))
          all_goals (have hh := (‹_ ∧ _ ∧ _ ∧ _ ∧ _ ∧ _ ∧ _ ∧ Below w16.heap.size w16 _›).2.2.2.2.2.2.2; have HH := hide hh; clear hh KS)
          all_goals go_wp2_with fail
          all_goals go_meet
          all_goals (refine ⟨_, A0, z0, rfl, rfl, by omega, ?_, ?_, fun q e => by have := hlo q e; (try dsimp only); omega, HH.out⟩)
          all_goals first
            | (with_reducible exact Box3.stored GB.out _ _ _)
            | (with_reducible exact Box3.new _ _ _ rfl)
            | (with_reducible refine Own.mono (Own.alloc HO.out _) ?_; omega)
            | (with_reducible refine Own.mono (Own.set (Own.set (Own.set HO.out (own_nl hlo ?_) _) (own_nl hlo ?_) _) (own_nl hlo ?_) _) ?_ <;> first | omega | (dsimp only; omega))
        case rest =>
          obtain ⟨g2, A2, z2, rfl, rfl, hg2, kg, ho, hn2, hB⟩ := hcut
          have b82_ := hide (b75_.out.call hB)
          clear b75_
          have x83_ := hide (x76_.out.call hB)
          clear x76_
          have b84_ := hide (b77_.out.call hB)
          clear b77_
          have u85_ := hide (Own.below u78_.out hB)
          clear u78_
          have b86_ := hide (b79_.out.call hB)
          clear b79_
          have u87_ := hide (Own.below u80_.out hB)
          clear u80_
          have HB88_ := hide (kb_call HB81_.out (Nat.le_refl _) hB)
          clear HB81_
          have z_11 := hB.size
          (try simp only [World.size_alloc, World.size_setCell, World.size_drew, size_drewN] at z_11)
          have b89_ := hide (kg)
          have u90_ := hide (ho)
          clear hB kg ho
          obtain ⟨⟨c0_0, c0_1, c0_2⟩, _⟩ := b89_.out
          obtain ⟨⟨c1_0, c1_1, c1_2⟩, _⟩ := b84_.out
          go_wp2_with fail
          refine (eqMatrix_own R C _ _ _ _ XS _ u90_.out u85_.out (by omega)).mono ?_; rintro e w18 ⟨rfl, hb⟩
          have b91_ := hide (b82_.out.call hb)
          clear b82_
          have x92_ := hide (x83_.out.call hb)
          clear x83_
          have b93_ := hide (b84_.out.call hb)
          clear b84_
          have u94_ := hide (Own.below u85_.out hb)
          clear u85_
          have b95_ := hide (b86_.out.call hb)
          clear b86_
          have u96_ := hide (Own.below u87_.out hb)
          clear u87_
          have b97_ := hide (b89_.out.call hb)
          clear b89_
          have u98_ := hide (Own.below u90_.out hb)
          clear u90_
          have HB99_ := hide (kb_call HB88_.out (Nat.le_refl _) hb)
          clear HB88_
          have z_12 := hb.size
          (try simp only [World.size_alloc, World.size_setCell, World.size_drew, size_drewN] at z_12)
          clear hb c0_0 c0_1 c0_2 c1_0 c1_1 c1_2
          obtain ⟨⟨c0_0, c0_1, c0_2⟩, _⟩ := b95_.out
          go_wp2_with fail
          refine (heldMatrix_own R C _ _ 1 XS.length _ u96_.out (by omega) (by omega) (by omega)).mono ?_; rintro e w19 ⟨rfl, hb⟩
          have b100_ := hide (b91_.out.call hb)
          clear b91_
          have x101_ := hide (x92_.out.call hb)
          clear x92_
          have b102_ := hide (b93_.out.call hb)
          clear b93_
          have u103_ := hide (Own.below u94_.out hb)
          clear u94_
          have b104_ := hide (b95_.out.call hb)
          clear b95_
          have u105_ := hide (Own.below u96_.out hb)
          clear u96_
          have b106_ := hide (b97_.out.call hb)
          clear b97_
          have u107_ := hide (Own.below u98_.out hb)
          clear u98_
          have HB108_ := hide (kb_call HB99_.out (Nat.le_refl _) hb)
          clear HB99_
          have z_13 := hb.size
          (try simp only [World.size_alloc, World.size_setCell, World.size_drew, size_drewN] at z_13)
          clear hb c0_0 c0_1 c0_2
          go_wp2
          go_returns
          exact ⟨rfl, HB108_.out⟩
  · go_enter Try.func4, Try.ntmps4
    go_wp2_with (go_at_call 14; refine (szMatrix_no r c A p xs.length 1048576 _ (by omega) (by omega) (by omega) (by omega)).mono ?_; rintro e w1 ⟨rfl, hb⟩)
    go_returns
    exact ⟨rfl, (by repeat' (first | exact Below.refl _ _ | (refine Below.alloc ?_ ?_ _) | (refine Below.setCell ?_ ?_ _) | (refine Below.drew ?_) | (refine below_drewN ?_ _) | (refine Below.trans ?_ (Below.mono (by assumption) ?_)) | omega | (simp only [World.size_alloc, World.size_setCell, World.size_drew, size_drewN]; omega)))⟩
theorem walkFnExactDoRowOp (r : Int) (_l0 : -9223372036854775808 ≤ r) (_u0 : r ≤ 9223372036854775807) (c : Int) (_l1 : -9223372036854775808 ≤ c) (_u1 : c ≤ 9223372036854775807) (A : Option Addr) (n p : Nat) (xs : List Int)
    (k : Int) (_l2 : -9223372036854775808 ≤ k) (_u2 : k ≤ 9223372036854775807) (i : Int) (_l3 : -9223372036854775808 ≤ i) (_u3 : i ≤ 9223372036854775807) (j : Int) (_l4 : -9223372036854775808 ≤ j) (_u4 : j ≤ 9223372036854775807) (t : Int) (_l5 : -9223372036854775808 ≤ t) (_u5 : t ≤ 9223372036854775807) (w : World) (hs : SlArg w A n p xs) :
    Calls Try.prog 4 #[mv r c (.slice A n p), opv k i j t] w fun e w' => e = .returned (.bool true) ∧ Below w.heap.size w w' := by
  obtain ⟨rfl, hm, hA⟩ := hs
  exact lawFnExactDoRowOp r c k i j t _l0 _u0 A p xs w hA hm
end Go.Proofs.Ythbmmoajfghjbaa
