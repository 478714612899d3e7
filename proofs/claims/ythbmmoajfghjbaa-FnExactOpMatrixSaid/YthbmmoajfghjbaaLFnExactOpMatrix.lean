/- The walk of FnExactOpMatrix. -/
import Derived.Test.YthbmmoajfghjbaaOpmW
import Derived.Test.YthbmmoajfghjbaaRowLib
namespace Go.Proofs.Ythbmmoajfghjbaa
open Go.RowKit
set_option linter.unusedSimpArgs false
set_option linter.unusedVariables false
set_option maxRecDepth 100000 in
set_option maxHeartbeats 16000000 in
theorem walkFnExactOpMatrix (k : Int) (_l2 : -9223372036854775808 ≤ k) (_u2 : k ≤ 9223372036854775807) (i : Int) (_l3 : -9223372036854775808 ≤ i) (_u3 : i ≤ 9223372036854775807) (j : Int) (_l4 : -9223372036854775808 ≤ j) (_u4 : j ≤ 9223372036854775807) (t : Int) (_l5 : -9223372036854775808 ≤ t) (_u5 : t ≤ 9223372036854775807) (rows : Int) (hr0 : -9223372036854775808 ≤ rows) (hr1 : rows ≤ 9223372036854775807) (w : World) :
    Calls Try.prog 5 #[opv k i j t, .int .i64 rows] w fun e w' => e = .returned (.bool true) ∧ Below w.heap.size w w' := by
  have cs := fun w => specOpm rows hr0 hr1 k i j t w
  have ci := fun w => implOpm rows hr0 hr1 k i j t w
  have hX : (opmRes k i j t rows).L.length ≤ 1048576 := OpMatrix_len
  obtain ⟨⟨R, C, XS, K⟩, hM⟩ : ∃ m, opmRes k i j t rows = m := ⟨_, rfl⟩
  rw [hM] at cs ci hX
  have CS : Hid (∀ w, Calls Try.prog 22 #[opv k i j t, .int .i64 rows] w (RetMat w R C XS K)) := cs
  have CI : Hid (∀ w, Calls Try.prog 23 #[opv k i j t, .int .i64 rows] w (RetMat w R C XS K)) := ci
  have hX' : XS.length ≤ 1048576 := hX
  have eK : (K != K) = false := by simp
  clear cs ci hX hM
  have HBx : Hid (Below w.heap.size w (w.alloc (.cells #[.int .i64 k, .int .i64 i, .int .i64 j, .int .i64 t] 34))) := (Below.refl _ _).alloc (Nat.le_refl _) _
  have x1_ := hide (OpBox.new (k := k) (i := i) (j := j) (t := t) w w.heap.size 34 rfl)
  go_enter Try.func5, Try.ntmps5
  obtain ⟨c0_0, c0_1, c0_2, c0_3⟩ := x1_.out
  go_wp2_with fail
  refine (toRowOp k i j t _).mono ?_; rintro e w2a ⟨rfl, hb⟩
  have x2_ := hide (x1_.out.call hb)
  clear x1_
  have HB3_ := hide (kb_call HBx.out (Nat.le_refl _) hb)
  clear HBx
  have z_1 := hb.size
  (try simp only [World.size_alloc, World.size_setCell, World.size_drew, size_drewN] at z_1)
  clear hb c0_0 c0_1 c0_2 c0_3
  go_wp2_with fail
  refine (CS.out _).mono ?_; rintro e w2 ⟨s, rfl, ho, hb⟩
  obtain ⟨A0, z0, rfl, _⟩ := Own.sl ho
  have hl0 := Own.lt ho
  have x4_ := hide (x2_.out.call hb |>.alloc (.cells #[.int .i64 R, .int .i64 C, .slice A0 XS.length z0] 36))
  clear x2_
  have HB5_ := hide ((kb_call HB3_.out (Nat.le_refl _) hb).alloc (by have := HB3_.out.size; have := hb.size; omega) (.cells #[.int .i64 R, .int .i64 C, .slice A0 XS.length z0] 36))
  clear HB3_
  have z_2 := hb.size
  (try simp only [World.size_alloc, World.size_setCell, World.size_drew, size_drewN] at z_2)
  have b6_ := hide (Box3.new (x := .int .i64 R) (y := .int .i64 C) (z := .slice A0 XS.length z0) w2 w2.heap.size 36 rfl)
  have u7_ := hide (ho |>.alloc (.cells #[.int .i64 R, .int .i64 C, .slice A0 XS.length z0] 36))
  clear hb ho
  obtain ⟨c0_0, c0_1, c0_2, c0_3⟩ := x4_.out
  go_wp2_with fail
  refine (toRowOp k i j t _).mono ?_; rintro e w4a ⟨rfl, hb⟩
  have x8_ := hide (x4_.out.call hb)
  clear x4_
  have b9_ := hide (b6_.out.call hb)
  clear b6_
  have u10_ := hide (Own.below u7_.out hb)
  clear u7_
  have HB11_ := hide (kb_call HB5_.out (Nat.le_refl _) hb)
  clear HB5_
  have z_3 := hb.size
  (try simp only [World.size_alloc, World.size_setCell, World.size_drew, size_drewN] at z_3)
  clear hb c0_0 c0_1 c0_2 c0_3
  go_wp2_with fail
  refine (CI.out _).mono ?_; rintro e w4 ⟨s, rfl, ho, hb⟩
  obtain ⟨A1, z1, rfl, _⟩ := Own.sl ho
  have hl1 := Own.lt ho
  have x12_ := hide (x8_.out.call hb |>.alloc (.cells #[.int .i64 R, .int .i64 C, .slice A1 XS.length z1] 36))
  clear x8_
  have b13_ := hide (b9_.out.call hb |>.alloc (.cells #[.int .i64 R, .int .i64 C, .slice A1 XS.length z1] 36))
  clear b9_
  have u14_ := hide (Own.below u10_.out hb |>.alloc (.cells #[.int .i64 R, .int .i64 C, .slice A1 XS.length z1] 36))
  clear u10_
  have HB15_ := hide ((kb_call HB11_.out (Nat.le_refl _) hb).alloc (by have := HB11_.out.size; have := hb.size; omega) (.cells #[.int .i64 R, .int .i64 C, .slice A1 XS.length z1] 36))
  clear HB11_
  have z_4 := hb.size
  (try simp only [World.size_alloc, World.size_setCell, World.size_drew, size_drewN] at z_4)
  have b16_ := hide (Box3.new (x := .int .i64 R) (y := .int .i64 C) (z := .slice A1 XS.length z1) w4 w4.heap.size 36 rfl)
  have u17_ := hide (ho |>.alloc (.cells #[.int .i64 R, .int .i64 C, .slice A1 XS.length z1] 36))
  clear hb ho
  obtain ⟨⟨c0_0, c0_1, c0_2⟩, _⟩ := b16_.out
  obtain ⟨⟨c1_0, c1_1, c1_2⟩, _⟩ := b13_.out
  go_wp2_with fail
  refine (eqMatrix_own R C _ _ _ _ XS _ u17_.out u14_.out (by omega)).mono ?_; rintro e w5 ⟨rfl, hb⟩
  have x18_ := hide (x12_.out.call hb)
  clear x12_
  have b19_ := hide (b13_.out.call hb)
  clear b13_
  have u20_ := hide (Own.below u14_.out hb)
  clear u14_
  have b21_ := hide (b16_.out.call hb)
  clear b16_
  have u22_ := hide (Own.below u17_.out hb)
  clear u17_
  have HB23_ := hide (kb_call HB15_.out (Nat.le_refl _) hb)
  clear HB15_
  have z_5 := hb.size
  (try simp only [World.size_alloc, World.size_setCell, World.size_drew, size_drewN] at z_5)
  clear hb c0_0 c0_1 c0_2 c1_0 c1_1 c1_2
  obtain ⟨⟨c0_0, c0_1, c0_2⟩, _⟩ := b21_.out
  go_wp2_with fail
  refine (markMatrix R C _ _ XS 1 _ u22_.out (by omega) (by omega) (by omega)).mono ?_; rintro e w6 ⟨rfl, ho, hg⟩
  have z_6 := hg.size
  have x24_ := hide (x18_.out.grown hg (fun e => by have := hl1 _ e.symm; omega))
  clear x18_
  have b25_ := hide (b19_.out.grown hg (fun e => by have := hl1 _ e.symm; omega))
  clear b19_
  have u26_ := hide (keepS hg hl1 u20_.out hl0 (by omega))
  clear u20_
  have b27_ := hide (b21_.out.grown hg (fun e => by have := hl1 _ e.symm; omega))
  clear b21_
  have u28_ := hide ho
  clear u22_
  have HB29_ := hide (below_mark HB23_.out hg hl1 (by omega) (by omega))
  clear HB23_
  clear hg ho c0_0 c0_1 c0_2
  have eM : ((1 + (XS.length : Int)) != (1 + (XS.length : Int))) = false := by simp
  obtain ⟨⟨c0_0, c0_1, c0_2⟩, _⟩ := b27_.out
  go_wp2_with fail
  refine (heldMatrix_own R C _ _ 1 XS.length _ u28_.out (by omega) (by omega) (by omega)).mono ?_; rintro e w7 ⟨rfl, hb⟩
  have x30_ := hide (x24_.out.call hb)
  clear x24_
  have b31_ := hide (b25_.out.call hb)
  clear b25_
  have u32_ := hide (Own.below u26_.out hb)
  clear u26_
  have b33_ := hide (b27_.out.call hb)
  clear b27_
  have u34_ := hide (Own.below u28_.out hb)
  clear u28_
  have HB35_ := hide (kb_call HB29_.out (Nat.le_refl _) hb)
  clear HB29_
  have z_7 := hb.size
  (try simp only [World.size_alloc, World.size_setCell, World.size_drew, size_drewN] at z_7)
  clear hb c0_0 c0_1 c0_2
  obtain ⟨c0_0, c0_1, c0_2, c0_3⟩ := x30_.out
  go_wp2_with fail
  refine (toRowOp k i j t _).mono ?_; rintro e w9a ⟨rfl, hb⟩
  have x36_ := hide (x30_.out.call hb)
  clear x30_
  have b37_ := hide (b31_.out.call hb)
  clear b31_
  have u38_ := hide (Own.below u32_.out hb)
  clear u32_
  have b39_ := hide (b33_.out.call hb)
  clear b33_
  have u40_ := hide (Own.below u34_.out hb)
  clear u34_
  have HB41_ := hide (kb_call HB35_.out (Nat.le_refl _) hb)
  clear HB35_
  have z_8 := hb.size
  (try simp only [World.size_alloc, World.size_setCell, World.size_drew, size_drewN] at z_8)
  clear hb c0_0 c0_1 c0_2 c0_3
  go_wp2_with fail
  refine (CI.out _).mono ?_; rintro e w9 ⟨s, rfl, ho, hb⟩
  obtain ⟨A2, z2, rfl, _⟩ := Own.sl ho
  have hl2 := Own.lt ho
  have x42_ := hide (x36_.out.call hb |>.alloc (.cells #[.int .i64 R, .int .i64 C, .slice A2 XS.length z2] 36))
  clear x36_
  have b43_ := hide (b37_.out.call hb |>.alloc (.cells #[.int .i64 R, .int .i64 C, .slice A2 XS.length z2] 36))
  clear b37_
  have u44_ := hide (Own.below u38_.out hb |>.alloc (.cells #[.int .i64 R, .int .i64 C, .slice A2 XS.length z2] 36))
  clear u38_
  have b45_ := hide (b39_.out.call hb |>.alloc (.cells #[.int .i64 R, .int .i64 C, .slice A2 XS.length z2] 36))
  clear b39_
  have u46_ := hide (Own.below u40_.out hb |>.alloc (.cells #[.int .i64 R, .int .i64 C, .slice A2 XS.length z2] 36))
  clear u40_
  have HB47_ := hide ((kb_call HB41_.out (Nat.le_refl _) hb).alloc (by have := HB41_.out.size; have := hb.size; omega) (.cells #[.int .i64 R, .int .i64 C, .slice A2 XS.length z2] 36))
  clear HB41_
  have z_9 := hb.size
  (try simp only [World.size_alloc, World.size_setCell, World.size_drew, size_drewN] at z_9)
  have b48_ := hide (Box3.new (x := .int .i64 R) (y := .int .i64 C) (z := .slice A2 XS.length z2) w9 w9.heap.size 36 rfl)
  have u49_ := hide (ho |>.alloc (.cells #[.int .i64 R, .int .i64 C, .slice A2 XS.length z2] 36))
  clear hb ho
  obtain ⟨⟨c0_0, c0_1, c0_2⟩, _⟩ := b48_.out
  obtain ⟨⟨c1_0, c1_1, c1_2⟩, _⟩ := b43_.out
  go_wp2_with fail
  refine (eqMatrix_own R C _ _ _ _ XS _ u49_.out u44_.out (by omega)).mono ?_; rintro e w10 ⟨rfl, hb⟩
  have x50_ := hide (x42_.out.call hb)
  clear x42_
  have b51_ := hide (b43_.out.call hb)
  clear b43_
  have u52_ := hide (Own.below u44_.out hb)
  clear u44_
  have b53_ := hide (b45_.out.call hb)
  clear b45_
  have u54_ := hide (Own.below u46_.out hb)
  clear u46_
  have b55_ := hide (b48_.out.call hb)
  clear b48_
  have u56_ := hide (Own.below u49_.out hb)
  clear u49_
  have HB57_ := hide (kb_call HB47_.out (Nat.le_refl _) hb)
  clear HB47_
  have z_10 := hb.size
  (try simp only [World.size_alloc, World.size_setCell, World.size_drew, size_drewN] at z_10)
  clear hb c0_0 c0_1 c0_2 c1_0 c1_1 c1_2
  obtain ⟨⟨c0_0, c0_1, c0_2⟩, _⟩ := b53_.out
  go_wp2_with fail
  refine (heldMatrix_own R C _ _ 1 XS.length _ u54_.out (by omega) (by omega) (by omega)).mono ?_; rintro e w11 ⟨rfl, hb⟩
  have x58_ := hide (x50_.out.call hb)
  clear x50_
  have b59_ := hide (b51_.out.call hb)
  clear b51_
  have u60_ := hide (Own.below u52_.out hb)
  clear u52_
  have b61_ := hide (b53_.out.call hb)
  clear b53_
  have u62_ := hide (Own.below u54_.out hb)
  clear u54_
  have b63_ := hide (b55_.out.call hb)
  clear b55_
  have u64_ := hide (Own.below u56_.out hb)
  clear u56_
  have HB65_ := hide (kb_call HB57_.out (Nat.le_refl _) hb)
  clear HB57_
  have z_11 := hb.size
  (try simp only [World.size_alloc, World.size_setCell, World.size_drew, size_drewN] at z_11)
  clear hb c0_0 c0_1 c0_2
  go_wp2
  go_returns
  exact ⟨rfl, HB65_.out⟩
end Go.Proofs.Ythbmmoajfghjbaa
