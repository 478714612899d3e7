/- The walks of OpMatrix. -/
import Derived.Test.YthbmmoajfghjbaaDoSp
import Derived.Test.YthbmmoajfghjbaaOpLib
import Derived.Test.YthbmmoajfghjbaaIdW
namespace Go.Proofs.Ythbmmoajfghjbaa
open Go.RowKit
set_option linter.unusedSimpArgs false
set_option linter.unusedVariables false

def opmRes (k i j t rows : Int) : MRes := if isRowOp k i j t rows = true then opRes rows rows (idTo rows.toNat rows.toNat) k i j t else .no
theorem OpMatrix_len {k i j t rows : Int} : (opmRes k i j t rows).L.length ≤ 1048576 := by
  unfold opmRes
  split
  · exact DoRowOp_len
  · exact Nat.zero_le _
theorem isRowOp_rows {k i j t r : Int} (h : isRowOp k i j t r = true) : 0 ≤ r ∧ r ≤ 24 := by
  simp only [isRowOp, Bool.and_eq_true, decide_eq_true_eq, Bool.or_eq_true] at h
  omega
set_option maxHeartbeats 4000000 in
theorem implOpm_yes (n : Nat) (k i j t : Int) (ho : isRowOp k i j t n = true) (w : World) :
    Calls Try.prog 23 #[opv k i j t, .int .i64 n] w (RetM w (opRes n n (idTo n n) k i j t)) := by
  have hn := (isRowOp_rows ho).2
  have hnn := nn_le (n := n) (by omega)
  have hl0 := idTo_length n n
  have im := fun w => implIdentity_yes n (by omega) w
  have ir := fun w => implIsRowOp k i j t n w
  rw [ho] at ir
  obtain ⟨L0, hL⟩ : ∃ L, idTo n n = L := ⟨_, rfl⟩
  rw [hL] at hl0 im ⊢
  have ci := fun A p w (h : Sl w A L0.length p L0) => implDoOp n n k i j t A p L0 w h (by omega)
  obtain ⟨⟨R, C, XS, K⟩, hM⟩ : ∃ m, opRes n n L0 k i j t = m := ⟨_, rfl⟩
  rw [hM] at ci ⊢
  have IM := hide im
  have IR := hide ir
  have CI : Hid (∀ A p w, Sl w A L0.length p L0 → Calls Try.prog 18 #[mv n n (.slice A L0.length p), opv k i j t] w (RetMat w R C XS K)) := ci
  show Calls _ _ _ _ (RetMat w R C XS K)
  clear im ir ci hM hL ho hl0
  have HBx : Hid (Below w.heap.size w ((w.alloc (.cells #[.int .i64 k, .int .i64 i, .int .i64 j, .int .i64 t] 40)).alloc (.cells #[.int .i64 0, .int .i64 0, .slice none 0 0] 36))) := ((Below.refl _ _).alloc (Nat.le_refl _) _).alloc (by simp) _
  have x1_ := hide ((OpBox.new (k := k) (i := i) (j := j) (t := t) w w.heap.size 40 rfl).alloc (.cells #[.int .i64 0, .int .i64 0, .slice none 0 0] 36))
  have b2_ := hide (Box3.new (x := .int .i64 0) (y := .int .i64 0) (z := .slice none 0 0) (w.alloc (.cells #[.int .i64 k, .int .i64 i, .int .i64 j, .int .i64 t] 40)) (w.heap.size + 1) 36 (by simp))
  go_enter Try.func23, Try.ntmps23
  go_wp2_with fail
  refine (IM.out _).mono ?_; rintro e w1 ⟨s, rfl, ho, hb⟩
  obtain ⟨A1, p1, rfl, _⟩ := Own.sl ho
  have x3_ := hide (x1_.out.call hb |>.alloc (.cells #[.int .i64 n, .int .i64 n, .slice A1 L0.length p1] 36))
  clear x1_
  have b4_ := hide (b2_.out.call hb |>.alloc (.cells #[.int .i64 n, .int .i64 n, .slice A1 L0.length p1] 36))
  clear b2_
  have HB5_ := hide ((kb_call HBx.out (Nat.le_refl _) hb).alloc (by have := HBx.out.size; have := hb.size; omega) (.cells #[.int .i64 n, .int .i64 n, .slice A1 L0.length p1] 36))
  clear HBx
  have z_1 := hb.size
  (try simp only [World.size_alloc, World.size_setCell, World.size_drew, size_drewN] at z_1)
  have b6_ := hide (Box3.new (x := .int .i64 n) (y := .int .i64 n) (z := .slice A1 L0.length p1) w1 w1.heap.size 36 rfl)
  have u7_ := hide (ho |>.alloc (.cells #[.int .i64 n, .int .i64 n, .slice A1 L0.length p1] 36))
  clear hb ho
  obtain ⟨c0_0, c0_1, c0_2, c0_3⟩ := x3_.out
  go_wp2_with fail
  refine (IR.out _).mono ?_; rintro e w2 ⟨rfl, hb⟩
  have x8_ := hide (x3_.out.call hb)
  clear x3_
  have b9_ := hide (b4_.out.call hb)
  clear b4_
  have b10_ := hide (b6_.out.call hb)
  clear b6_
  have u11_ := hide (Own.below u7_.out hb)
  clear u7_
  have HB12_ := hide (kb_call HB5_.out (Nat.le_refl _) hb)
  clear HB5_
  have z_2 := hb.size
  (try simp only [World.size_alloc, World.size_setCell, World.size_drew, size_drewN] at z_2)
  clear hb c0_0 c0_1 c0_2 c0_3
  obtain ⟨⟨c0_0, c0_1, c0_2⟩, _⟩ := b10_.out
  obtain ⟨c1_0, c1_1, c1_2, c1_3⟩ := x8_.out
  go_wp2_with fail
  refine (CI.out _ _ _ (Own.sl2 u11_.out)).mono ?_; rintro e w3 ⟨s, rfl, ho, hb⟩
  obtain ⟨A2, z2, rfl, _⟩ := Own.sl ho
  have x13_ := hide (x8_.out.call hb)
  clear x8_
  have b14_ := hide (b9_.out.call hb)
  clear b9_
  have b15_ := hide (b10_.out.call hb)
  clear b10_
  have u16_ := hide (Own.below u11_.out hb)
  clear u11_
  have HB17_ := hide (kb_call HB12_.out (Nat.le_refl _) hb)
  clear HB12_
  have z_3 := hb.size
  (try simp only [World.size_alloc, World.size_setCell, World.size_drew, size_drewN] at z_3)
  have u18_ := hide (ho)
  clear hb ho c0_0 c0_1 c0_2 c1_0 c1_1 c1_2 c1_3
  have hl := own_nm u18_.out
  (try simp only [World.size_alloc, World.size_setCell, World.size_drew, size_drewN] at hl)
  obtain ⟨⟨x0, x1, x2⟩, f0, f1, f2⟩ := b14_.out
  have hlt := b14_.out.lt
  obtain ⟨⟨m0, m1, m2⟩, _⟩ := (Box3.stored b14_.out (.int .i64 R) (.int .i64 C) (.slice A2 XS.length z2))
  have RO := u18_
  have HBE := HB17_
  go_wp2
  exact bodyPost_ret (v := .tuple #[mv (R) (C) (.slice A2 XS.length z2), .bool K]) (by first | (simp [results, Try.results23, go_sem, m0, m1, m2]; done) | (simp [results, Try.results23, go_sem]; done)) rfl ⟨_, rfl, Own.mono ((Own.set (Own.set (Own.set RO.out (fun e => by have := hl _ e; (try dsimp only at this); omega) _) (fun e => by have := hl _ e; (try dsimp only at this); omega) _) (fun e => by have := hl _ e; (try dsimp only at this); omega) _)) (by first | omega | (simp only [World.size_alloc] at *; omega)), (((HBE.out.setCell (by dsimp only; omega) _).setCell (by dsimp only; omega) _).setCell (by dsimp only; omega) _)⟩
set_option maxHeartbeats 2000000 in
theorem implOpm_no (rows : Int) (hr0 : -9223372036854775808 ≤ rows) (hr1 : rows ≤ 9223372036854775807) (k i j t : Int) (ho : isRowOp k i j t rows = false) (w : World) :
    Calls Try.prog 23 #[opv k i j t, .int .i64 rows] w (RetMat w 0 0 [] false) := by
  have ir := fun w => implIsRowOp k i j t rows w
  rw [ho] at ir
  have IR := hide ir
  clear ir ho
  by_cases hi : idOk rows = true
  · have im := fun w => implIdentity rows w
    rw [hi] at im
    have IM := hide im
    clear im
    have HBx : Hid (Below w.heap.size w ((w.alloc (.cells #[.int .i64 k, .int .i64 i, .int .i64 j, .int .i64 t] 40)).alloc (.cells #[.int .i64 0, .int .i64 0, .slice none 0 0] 36))) := ((Below.refl _ _).alloc (Nat.le_refl _) _).alloc (by simp) _
    have x1_ := hide ((OpBox.new (k := k) (i := i) (j := j) (t := t) w w.heap.size 40 rfl).alloc (.cells #[.int .i64 0, .int .i64 0, .slice none 0 0] 36))
    have b2_ := hide (Box3.new (x := .int .i64 0) (y := .int .i64 0) (z := .slice none 0 0) (w.alloc (.cells #[.int .i64 k, .int .i64 i, .int .i64 j, .int .i64 t] 40)) (w.heap.size + 1) 36 (by simp))
    go_enter Try.func23, Try.ntmps23
    generalize idN rows = NN at *
    generalize idL rows = L0 at *
    go_wp2_with fail
    refine (IM.out _).mono ?_; rintro e w1 ⟨s, rfl, ho, hb⟩
    obtain ⟨A1, p1, rfl, _⟩ := Own.sl ho
    have x3_ := hide (x1_.out.call hb |>.alloc (.cells #[.int .i64 NN, .int .i64 NN, .slice A1 L0.length p1] 36))
    clear x1_
    have b4_ := hide (b2_.out.call hb |>.alloc (.cells #[.int .i64 NN, .int .i64 NN, .slice A1 L0.length p1] 36))
    clear b2_
    have HB5_ := hide ((kb_call HBx.out (Nat.le_refl _) hb).alloc (by have := HBx.out.size; have := hb.size; omega) (.cells #[.int .i64 NN, .int .i64 NN, .slice A1 L0.length p1] 36))
    clear HBx
    have z_1 := hb.size
    (try simp only [World.size_alloc, World.size_setCell, World.size_drew, size_drewN] at z_1)
    clear hb ho
    obtain ⟨c0_0, c0_1, c0_2, c0_3⟩ := x3_.out
    go_wp2_with fail
    refine (IR.out _).mono ?_; rintro e w2 ⟨rfl, hb⟩
    have x6_ := hide (x3_.out.call hb)
    clear x3_
    have b7_ := hide (b4_.out.call hb)
    clear b4_
    have HB8_ := hide (kb_call HB5_.out (Nat.le_refl _) hb)
    clear HB5_
    have z_2 := hb.size
    (try simp only [World.size_alloc, World.size_setCell, World.size_drew, size_drewN] at z_2)
    clear hb c0_0 c0_1 c0_2 c0_3
    obtain ⟨⟨x0, x1, x2⟩, f0, f1, f2⟩ := b7_.out
    have hlt := b7_.out.lt
    obtain ⟨⟨m0, m1, m2⟩, _⟩ := Box3.stored b7_.out (.int .i64 0) (.int .i64 0) (.slice none 0 0)
    have HBE := HB8_
    go_wp2
    exact bodyPost_ret (v := .tuple #[mv (0) (0) (.slice none 0 0), .bool false]) (by first | (simp [results, Try.results23, go_sem, m0, m1, m2]; done) | (simp [results, Try.results23, go_sem]; done)) rfl ⟨_, rfl, Own.nil _ _, ((HBE.out.setCell (by dsimp only; omega) _).setCell (by dsimp only; omega) _).setCell (by dsimp only; omega) _⟩
  · have hi' : idOk rows = false := by simpa using hi
    have im := fun w => implIdentity_no rows hi' w
    have IM := hide im
    clear im hi hi'
    have HBx : Hid (Below w.heap.size w ((w.alloc (.cells #[.int .i64 k, .int .i64 i, .int .i64 j, .int .i64 t] 40)).alloc (.cells #[.int .i64 0, .int .i64 0, .slice none 0 0] 36))) := ((Below.refl _ _).alloc (Nat.le_refl _) _).alloc (by simp) _
    have x1_ := hide ((OpBox.new (k := k) (i := i) (j := j) (t := t) w w.heap.size 40 rfl).alloc (.cells #[.int .i64 0, .int .i64 0, .slice none 0 0] 36))
    have b2_ := hide (Box3.new (x := .int .i64 0) (y := .int .i64 0) (z := .slice none 0 0) (w.alloc (.cells #[.int .i64 k, .int .i64 i, .int .i64 j, .int .i64 t] 40)) (w.heap.size + 1) 36 (by simp))
    go_enter Try.func23, Try.ntmps23
    go_wp2_with fail
    refine (IM.out _).mono ?_; rintro e w1 ⟨s, rfl, ho, hb⟩
    obtain ⟨A1, p1, rfl, _⟩ := Own.sl ho
    simp only [List.length_nil] at ho ⊢
    have x3_ := hide (x1_.out.call hb)
    clear x1_
    have b4_ := hide (b2_.out.call hb)
    clear b2_
    have HB5_ := hide (kb_call HBx.out (Nat.le_refl _) hb)
    clear HBx
    have z_1 := hb.size
    (try simp only [World.size_alloc, World.size_setCell, World.size_drew, size_drewN] at z_1)
    clear ho hb
    obtain ⟨⟨x0, x1, x2⟩, f0, f1, f2⟩ := b4_.out
    have hlt := b4_.out.lt
    obtain ⟨⟨m0, m1, m2⟩, _⟩ := (Box3.stored b4_.out (.int .i64 0) (.int .i64 0) (.slice none 0 0)).alloc (.cells #[.int .i64 0, .int .i64 0, .slice A1 0 p1] 36)
    have HBE := HB5_
    go_wp2
    exact bodyPost_ret (v := .tuple #[mv (0) (0) (.slice none 0 0), .bool false]) (by first | (simp [results, Try.results23, go_sem, m0, m1, m2]; done) | (simp [results, Try.results23, go_sem]; done)) rfl ⟨_, rfl, Own.nil _ _, (((HBE.out.setCell (by dsimp only; omega) _).setCell (by dsimp only; omega) _).setCell (by dsimp only; omega) _).alloc (by have := HBE.out.size; simp; omega) _⟩
theorem implOpm (rows : Int) (hr0 : -9223372036854775808 ≤ rows) (hr1 : rows ≤ 9223372036854775807) (k i j t : Int) (w : World) :
    Calls Try.prog 23 #[opv k i j t, .int .i64 rows] w (RetM w (opmRes k i j t rows)) := by
  rcases Bool.eq_false_or_eq_true (isRowOp k i j t rows) with h | h
  · obtain ⟨n, rfl⟩ := Int.eq_ofNat_of_zero_le (isRowOp_rows h).1
    rw [show opmRes k i j t n = opRes n n (idTo n n) k i j t from by rw [opmRes, if_pos h]; rfl]
    exact implOpm_yes n k i j t h w
  · rw [show opmRes k i j t rows = .no from by rw [opmRes, if_neg (by simp [h])]]
    exact implOpm_no rows hr0 hr1 k i j t h w
set_option maxHeartbeats 4000000 in
theorem specOpm_yes (n : Nat) (k i j t : Int) (ho : isRowOp k i j t n = true) (w : World) :
    Calls Try.prog 22 #[opv k i j t, .int .i64 n] w (RetM w (opRes n n (idTo n n) k i j t)) := by
  have hn := (isRowOp_rows ho).2
  have hnn := nn_le (n := n) (by omega)
  have hl0 := idTo_length n n
  have im := fun w => specIdentity_yes n (by omega) w
  have ir := fun w => specIsRowOp k i j t n w (by omega) (by omega)
  rw [ho] at ir
  obtain ⟨L0, hL⟩ : ∃ L, idTo n n = L := ⟨_, rfl⟩
  rw [hL] at hl0 im ⊢
  have ci := fun A p w (h : Sl w A L0.length p L0) => specDoOp n n k i j t (by omega) (by omega) A p L0 w h (by omega)
  obtain ⟨⟨R, C, XS, K⟩, hM⟩ : ∃ m, opRes n n L0 k i j t = m := ⟨_, rfl⟩
  rw [hM] at ci ⊢
  have IM := hide im
  have IR := hide ir
  have CI : Hid (∀ A p w, Sl w A L0.length p L0 → Calls Try.prog 15 #[mv n n (.slice A L0.length p), opv k i j t] w (RetMat w R C XS K)) := ci
  show Calls _ _ _ _ (RetMat w R C XS K)
  clear im ir ci hM hL ho hl0
  have HBx : Hid (Below w.heap.size w ((w.alloc (.cells #[.int .i64 k, .int .i64 i, .int .i64 j, .int .i64 t] 40)).alloc (.cells #[.int .i64 0, .int .i64 0, .slice none 0 0] 36))) := ((Below.refl _ _).alloc (Nat.le_refl _) _).alloc (by simp) _
  have x1_ := hide ((OpBox.new (k := k) (i := i) (j := j) (t := t) w w.heap.size 40 rfl).alloc (.cells #[.int .i64 0, .int .i64 0, .slice none 0 0] 36))
  have b2_ := hide (Box3.new (x := .int .i64 0) (y := .int .i64 0) (z := .slice none 0 0) (w.alloc (.cells #[.int .i64 k, .int .i64 i, .int .i64 j, .int .i64 t] 40)) (w.heap.size + 1) 36 (by simp))
  go_enter Try.func22, Try.ntmps22
  obtain ⟨c0_0, c0_1, c0_2, c0_3⟩ := x1_.out
  go_wp2_with fail
  refine (IR.out _).mono ?_; rintro e w2 ⟨rfl, hb⟩
  have x3_ := hide (x1_.out.call hb)
  clear x1_
  have b4_ := hide (b2_.out.call hb)
  clear b2_
  have HB5_ := hide (kb_call HBx.out (Nat.le_refl _) hb)
  clear HBx
  have z_1 := hb.size
  (try simp only [World.size_alloc, World.size_setCell, World.size_drew, size_drewN] at z_1)
  clear hb c0_0 c0_1 c0_2 c0_3
  go_wp2_with fail
  refine (IM.out _).mono ?_; rintro e w1 ⟨s, rfl, ho, hb⟩
  obtain ⟨A1, p1, rfl, _⟩ := Own.sl ho
  have x6_ := hide (x3_.out.call hb |>.alloc (.cells #[.int .i64 n, .int .i64 n, .slice A1 L0.length p1] 36))
  clear x3_
  have b7_ := hide (b4_.out.call hb |>.alloc (.cells #[.int .i64 n, .int .i64 n, .slice A1 L0.length p1] 36))
  clear b4_
  have HB8_ := hide ((kb_call HB5_.out (Nat.le_refl _) hb).alloc (by have := HB5_.out.size; have := hb.size; omega) (.cells #[.int .i64 n, .int .i64 n, .slice A1 L0.length p1] 36))
  clear HB5_
  have z_2 := hb.size
  (try simp only [World.size_alloc, World.size_setCell, World.size_drew, size_drewN] at z_2)
  have b9_ := hide (Box3.new (x := .int .i64 n) (y := .int .i64 n) (z := .slice A1 L0.length p1) w1 w1.heap.size 36 rfl)
  have u10_ := hide (ho |>.alloc (.cells #[.int .i64 n, .int .i64 n, .slice A1 L0.length p1] 36))
  clear hb ho
  obtain ⟨⟨c0_0, c0_1, c0_2⟩, _⟩ := b9_.out
  obtain ⟨c1_0, c1_1, c1_2, c1_3⟩ := x6_.out
  go_wp2_with fail
  refine (CI.out _ _ _ (Own.sl2 u10_.out)).mono ?_; rintro e w3 ⟨s, rfl, ho, hb⟩
  obtain ⟨A2, z2, rfl, _⟩ := Own.sl ho
  have x11_ := hide (x6_.out.call hb)
  clear x6_
  have b12_ := hide (b7_.out.call hb)
  clear b7_
  have b13_ := hide (b9_.out.call hb)
  clear b9_
  have u14_ := hide (Own.below u10_.out hb)
  clear u10_
  have HB15_ := hide (kb_call HB8_.out (Nat.le_refl _) hb)
  clear HB8_
  have z_3 := hb.size
  (try simp only [World.size_alloc, World.size_setCell, World.size_drew, size_drewN] at z_3)
  have u16_ := hide (ho)
  clear hb ho c0_0 c0_1 c0_2 c1_0 c1_1 c1_2 c1_3
  have hl := own_nm u16_.out
  (try simp only [World.size_alloc, World.size_setCell, World.size_drew, size_drewN] at hl)
  obtain ⟨⟨x0, x1, x2⟩, f0, f1, f2⟩ := b12_.out
  have hlt := b12_.out.lt
  obtain ⟨⟨m0, m1, m2⟩, _⟩ := (Box3.stored b12_.out (.int .i64 R) (.int .i64 C) (.slice A2 XS.length z2)).alloc (.cells #[.int .i64 R, .int .i64 C, .slice A2 XS.length z2] 36)
  have RO := u16_
  have HBE := HB15_
  go_wp2
  exact bodyPost_ret (v := .tuple #[mv (R) (C) (.slice A2 XS.length z2), .bool K]) (by first | (simp [results, Try.results22, go_sem, m0, m1, m2]; done) | (simp [results, Try.results22, go_sem]; done)) rfl ⟨_, rfl, Own.mono ((Own.set (Own.set (Own.set RO.out (fun e => by have := hl _ e; (try dsimp only at this); omega) _) (fun e => by have := hl _ e; (try dsimp only at this); omega) _) (fun e => by have := hl _ e; (try dsimp only at this); omega) _).alloc _) (by first | omega | (simp only [World.size_alloc] at *; omega)), (((HBE.out.setCell (by dsimp only; omega) _).setCell (by dsimp only; omega) _).setCell (by dsimp only; omega) _).alloc (by have := HBE.out.size; simp; omega) _⟩
set_option maxHeartbeats 2000000 in
theorem specOpm_no (rows : Int) (hr0 : -9223372036854775808 ≤ rows) (hr1 : rows ≤ 9223372036854775807) (k i j t : Int) (ho : isRowOp k i j t rows = false) (w : World) :
    Calls Try.prog 22 #[opv k i j t, .int .i64 rows] w (RetMat w 0 0 [] false) := by
  have ir := fun w => specIsRowOp k i j t rows w hr0 hr1
  rw [ho] at ir
  have IR := hide ir
  clear ir ho
  have HBx : Hid (Below w.heap.size w ((w.alloc (.cells #[.int .i64 k, .int .i64 i, .int .i64 j, .int .i64 t] 40)).alloc (.cells #[.int .i64 0, .int .i64 0, .slice none 0 0] 36))) := ((Below.refl _ _).alloc (Nat.le_refl _) _).alloc (by simp) _
  have x1_ := hide ((OpBox.new (k := k) (i := i) (j := j) (t := t) w w.heap.size 40 rfl).alloc (.cells #[.int .i64 0, .int .i64 0, .slice none 0 0] 36))
  have b2_ := hide (Box3.new (x := .int .i64 0) (y := .int .i64 0) (z := .slice none 0 0) (w.alloc (.cells #[.int .i64 k, .int .i64 i, .int .i64 j, .int .i64 t] 40)) (w.heap.size + 1) 36 (by simp))
  go_enter Try.func22, Try.ntmps22
  obtain ⟨c0_0, c0_1, c0_2, c0_3⟩ := x1_.out
  go_wp2_with fail
  refine (IR.out _).mono ?_; rintro e w2 ⟨rfl, hb⟩
  have x3_ := hide (x1_.out.call hb)
  clear x1_
  have b4_ := hide (b2_.out.call hb)
  clear b2_
  have HB5_ := hide (kb_call HBx.out (Nat.le_refl _) hb)
  clear HBx
  have z_1 := hb.size
  (try simp only [World.size_alloc, World.size_setCell, World.size_drew, size_drewN] at z_1)
  clear hb c0_0 c0_1 c0_2 c0_3
  obtain ⟨⟨x0, x1, x2⟩, f0, f1, f2⟩ := b4_.out
  have hlt := b4_.out.lt
  obtain ⟨⟨m0, m1, m2⟩, _⟩ := Box3.stored b4_.out (.int .i64 0) (.int .i64 0) (.slice none 0 0)
  have HBE := HB5_
  go_wp2
  exact bodyPost_ret (v := .tuple #[mv (0) (0) (.slice none 0 0), .bool false]) (by first | (simp [results, Try.results22, go_sem, m0, m1, m2]; done) | (simp [results, Try.results22, go_sem]; done)) rfl ⟨_, rfl, Own.nil _ _, ((HBE.out.setCell (by dsimp only; omega) _).setCell (by dsimp only; omega) _).setCell (by dsimp only; omega) _⟩
theorem specOpm (rows : Int) (hr0 : -9223372036854775808 ≤ rows) (hr1 : rows ≤ 9223372036854775807) (k i j t : Int) (w : World) :
    Calls Try.prog 22 #[opv k i j t, .int .i64 rows] w (RetM w (opmRes k i j t rows)) := by
  rcases Bool.eq_false_or_eq_true (isRowOp k i j t rows) with h | h
  · obtain ⟨n, rfl⟩ := Int.eq_ofNat_of_zero_le (isRowOp_rows h).1
    rw [show opmRes k i j t n = opRes n n (idTo n n) k i j t from by rw [opmRes, if_pos h]; rfl]
    exact specOpm_yes n k i j t h w
  · rw [show opmRes k i j t rows = .no from by rw [opmRes, if_neg (by simp [h])]]
    exact specOpm_no rows hr0 hr1 k i j t h w
end Go.Proofs.Ythbmmoajfghjbaa
