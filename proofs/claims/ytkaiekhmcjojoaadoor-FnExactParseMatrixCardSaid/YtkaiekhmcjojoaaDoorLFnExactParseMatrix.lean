/- FnExactParseMatrix: the law's walk. -/
import Derived.Test.YtkaiekhmcjojoaaDoorPmxL
import Derived.Test.YtkaiekhmcjojoaaDoorPmxW
import Derived.Test.YtkaiekhmcjojoaaDoorLFnExactParseInt
namespace Go.Proofs.YtkaiekhmcjojoaaDoor
open Go.RowKit
set_option linter.unusedSimpArgs false
set_option linter.unusedVariables false
set_option maxHeartbeats 4000000 in
theorem walkFnExactParseMatrix (s : ByteArray) (hs : s.size ≤ maxLen) (w : World) (hE : Env w) :
    Calls Tryd.prog 4 #[.string s] w fun e w' => e = .returned (.bool true) ∧ Below w.heap.size w w' := by
  obtain ⟨l, rfl, hl⟩ := bytes_list s
  unfold maxLen at hs
  rw [hl] at hs
  have HE := hide hE
  clear hE hl
  by_cases hn : l.length ≤ 1048576
  · have hn1 : ¬ ((1048576 : Int) < (l.length : Int)) := by omega
    have cs := fun (w : World) => specParseMatrix l hn w
    have ci := fun (w : World) (hE : Env w) => implParseMatrix l hn w hE
    have hX := pmS_len l
    rw [pmI_pmS] at ci
    obtain ⟨⟨R, C, XS, K⟩, ho⟩ : ∃ o, pmS l = o := ⟨_, rfl⟩
    rw [ho] at cs ci hX
    have CS : Hid (∀ w, Calls Tryd.prog 11 #[sv l] w (RetMat w R C XS K)) := cs
    have CI : Hid (∀ w, Env w → Calls Tryd.prog 12 #[sv l] w (RetMat w R C XS K)) := ci
    have hX' : XS.length ≤ 576 := hX
    have eK : (K != K) = false := by simp
    have eM : ((1 + (XS.length : Int)) != (1 + (XS.length : Int))) = false := by simp
    clear cs ci ho hX
    go_enter Tryd.func4, Tryd.ntmps4
    go_wp2_with fail
    refine (CS.out _).mono ?_; rintro e w1 ⟨s0, rfl, ho, hb⟩
    obtain ⟨A0, z0, rfl, _⟩ := Own.sl ho
    have hl0 := Own.lt ho
    have hs0 := hb.size
    have O0 := hide (ho.alloc (.cells #[.int .i64 R, .int .i64 C, .slice A0 XS.length z0] 30))
    have b0 := hide (Box3.new (x := .int .i64 R) (y := .int .i64 C) (z := .slice A0 XS.length z0) w1 w1.heap.size 30 rfl)
    have HB1 := hide (hb.alloc hb.size (.cells #[.int .i64 R, .int .i64 C, .slice A0 XS.length z0] 30))
    clear ho hb
    go_wp2_with fail
    refine (CI.out _ (HE.out.below HB1.out)).mono ?_; rintro e w2 ⟨s1, rfl, ho, hb⟩
    obtain ⟨A1, z1, rfl, _⟩ := Own.sl ho
    have hl1 := Own.lt ho
    have hz2 := hb.size
    simp only [World.size_alloc] at hz2 hl1
    have O1 := hide (ho.alloc (.cells #[.int .i64 R, .int .i64 C, .slice A1 XS.length z1] 30))
    have O0' := hide ((O0.out.below hb).alloc (.cells #[.int .i64 R, .int .i64 C, .slice A1 XS.length z1] 30))
    have b0' := hide ((b0.out.call hb).alloc (.cells #[.int .i64 R, .int .i64 C, .slice A1 XS.length z1] 30))
    have b1 := hide (Box3.new (x := .int .i64 R) (y := .int .i64 C) (z := .slice A1 XS.length z1) w2 w2.heap.size 30 rfl)
    have HB2 := hide ((kb_call HB1.out (Nat.le_refl _) hb).alloc (by have := HB1.out.size; have := hb.size; omega) (.cells #[.int .i64 R, .int .i64 C, .slice A1 XS.length z1] 30))
    clear ho hb O0 b0 HB1
    obtain ⟨⟨i0, i1, i2⟩, _⟩ := b0'.out
    obtain ⟨⟨j0, j1, j2⟩, _⟩ := b1.out
    go_wp2_with fail
    refine (eqMatrix_own R C _ _ _ _ XS _ O1.out O0'.out (by omega)).mono ?_; rintro e w3 ⟨rfl, hb⟩
    have hz3 := hb.size
    simp only [World.size_alloc] at hz3
    have P0 := hide (O0'.out.below hb)
    have P1 := hide (O1.out.below hb)
    have k0 := hide (b0'.out.call hb)
    have k1 := hide (b1.out.call hb)
    have HB3 := hide (kb_call HB2.out (Nat.le_refl _) hb)
    clear hb O0' O1 b0' b1 HB2 i0 i1 i2 j0 j1 j2
    obtain ⟨⟨j0, j1, j2⟩, _⟩ := k1.out
    go_wp2_with fail
    refine (markMatrix R C _ _ XS 1 _ P1.out (by omega) (by omega) (by omega)).mono ?_; rintro e w4 ⟨rfl, ho, hg⟩
    have hB4 := hide (below_mark HB3.out hg hl1 (by omega) (by omega))
    have hk0 : some w1.heap.size ≠ (Value.slice A1 XS.length z1).ownBlock := fun e => by have := hl1 _ e.symm; omega
    have hk1 : some w2.heap.size ≠ (Value.slice A1 XS.length z1).ownBlock := fun e => by have := hl1 _ e.symm; omega
    have m0 := hide (k0.out.grown hg hk0)
    have m1 := hide (k1.out.grown hg hk1)
    have Q0 := hide (keepS hg hl1 P0.out hl0 (by omega))
    have Q1 := hide ho
    clear ho hg hk0 hk1 P0 P1 k0 k1 HB3 j0 j1 j2
    obtain ⟨⟨j0, j1, j2⟩, _⟩ := m1.out
    go_wp2_with fail
    refine (heldMatrix_own R C _ _ 1 XS.length _ Q1.out (by omega) (by omega) (by omega)).mono ?_; rintro e w5 ⟨rfl, hb⟩
    have HB5 := hide (kb_call hB4.out (Nat.le_refl _) hb)
    have n0 := hide (m0.out.call hb)
    have n1 := hide (m1.out.call hb)
    have U0 := hide (Q0.out.below hb)
    have U1 := hide (Q1.out.below hb)
    clear hb hB4 m0 m1 Q0 Q1 j0 j1 j2
    go_wp2_with fail
    refine (CI.out _ (HE.out.below HB5.out)).mono ?_; rintro e w6 ⟨s2, rfl, ho, hb⟩
    obtain ⟨A2, z2, rfl, _⟩ := Own.sl ho
    have O2 := hide (ho.alloc (.cells #[.int .i64 R, .int .i64 C, .slice A2 XS.length z2] 30))
    have b2 := hide (Box3.new (x := .int .i64 R) (y := .int .i64 C) (z := .slice A2 XS.length z2) w6 w6.heap.size 30 rfl)
    have r0 := hide ((n0.out.call hb).alloc (.cells #[.int .i64 R, .int .i64 C, .slice A2 XS.length z2] 30))
    have r1 := hide ((n1.out.call hb).alloc (.cells #[.int .i64 R, .int .i64 C, .slice A2 XS.length z2] 30))
    have V0 := hide ((U0.out.below hb).alloc (.cells #[.int .i64 R, .int .i64 C, .slice A2 XS.length z2] 30))
    have V1 := hide ((U1.out.below hb).alloc (.cells #[.int .i64 R, .int .i64 C, .slice A2 XS.length z2] 30))
    have HB6 := hide ((kb_call HB5.out (Nat.le_refl _) hb).alloc (by have := HB5.out.size; have := hb.size; omega) (.cells #[.int .i64 R, .int .i64 C, .slice A2 XS.length z2] 30))
    clear ho hb HB5 n0 n1 U0 U1
    obtain ⟨⟨i0, i1, i2⟩, _⟩ := r0.out
    obtain ⟨⟨j0, j1, j2⟩, _⟩ := b2.out
    go_wp2_with fail
    refine (eqMatrix_own R C _ _ _ _ XS _ O2.out V0.out (by omega)).mono ?_; rintro e w7 ⟨rfl, hb⟩
    have x1 := hide (r1.out.call hb)
    have Y1 := hide (V1.out.below hb)
    have HB7 := hide (kb_call HB6.out (Nat.le_refl _) hb)
    clear hb i0 i1 i2 j0 j1 j2 r0 r1 V0 V1 O2 b2 HB6
    obtain ⟨⟨j0, j1, j2⟩, _⟩ := x1.out
    go_wp2_with fail
    refine (heldMatrix_own R C _ _ 1 XS.length _ Y1.out (by omega) (by omega) (by omega)).mono ?_; rintro e w8 ⟨rfl, hb⟩
    have HB8 := hide (kb_call HB7.out (Nat.le_refl _) hb)
    clear hb
    go_wp2
    go_ret
    exact ⟨rfl, HB8.out⟩
  · have hn1 : ((1048576 : Int) < (l.length : Int)) := by omega
    go_enter Tryd.func4, Tryd.ntmps4
    go_wp2
    go_ret
    exact ⟨rfl, Below.refl _ _⟩
end Go.Proofs.YtkaiekhmcjojoaaDoor
