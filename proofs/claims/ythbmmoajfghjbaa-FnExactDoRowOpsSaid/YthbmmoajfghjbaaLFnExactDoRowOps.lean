/- FnExactDoRowOps: the law's walk. -/
import Derived.Test.YthbmmoajfghjbaaDosS
import Derived.Test.YthbmmoajfghjbaaLFnExactUndoRowOps
namespace Go.Proofs.Ythbmmoajfghjbaa
open Go.RowKit
set_option linter.unusedSimpArgs false
set_option linter.unusedVariables false
theorem apart {w w' : World} {s t : Value} {lo hi lo' hi' : Nat} (_hg : w.grownBy w' s.ownBlock) (hl : ∀ k, s.ownBlock = some k → lo ≤ k ∧ k < hi) (ht : ∀ k, t.ownBlock = some k → lo' ≤ k ∧ k < hi') (hd : hi' ≤ lo ∨ hi ≤ lo') : t.ownBlock = none ∨ t.ownBlock ≠ s.ownBlock := by
  cases e : t.ownBlock with
  | none => exact .inl rfl
  | some k =>
    refine .inr fun e2 => ?_
    have h1 := ht k e
    have h2 := hl k e2.symm
    omega
set_option maxRecDepth 100000 in
set_option maxHeartbeats 8000000 in
theorem walkFnExactDoRowOps (r : Int) (r0 : -9223372036854775808 ≤ r) (r1 : r ≤ 9223372036854775807) (c : Int) (_c0 : -9223372036854775808 ≤ c) (_c1 : c ≤ 9223372036854775807) (A : Option Addr) (l cap : Nat) (xs : List Int) (B : Option Addr) (n d : Nat) (cs : List Int) (w : World) (hs : SlArg w A l cap xs) (hs' : SlXArg w B n d cs) :
    Calls Try.prog 6 #[mv r c (.slice A l cap), .slice B n d] w fun e w' => e = .returned (.bool true) ∧ Below w.heap.size w w' := by
  obtain ⟨rfl, hm, hA⟩ := hs
  obtain ⟨hlx, hm', hX⟩ := hs'
  unfold maxLen at hm hm'
  have HA := hide hA
  have HX := hide hX
  have HLX := hide hlx
  clear hA hX hlx _c0 _c1
  by_cases hn : xs.length ≤ 1048576
  · by_cases hn' : n + xs.length ≤ 1048576
    · skip
      have CT := hide fun (w' : World) (hb : Below w.heap.size w w') => toRowOpS B d n cs w' (HX.out.below hb) HLX.out (by omega)
      have CM := hide fun (w' : World) (hb : Below w.heap.size w w') => toMatrix r c A cap xs w' (SlI.below HA.out hb) hn
      have cs' := fun (w' : World) (A2 B2 : Option Addr) (c2 d2 lo lo' : Nat) (h : Own w' lo (.slice A2 xs.length c2) xs) (h' : OwnX w' lo' (.slice B2 n d2) n cs) => specDoOps r c r0 r1 A2 B2 c2 n d2 xs cs w' (Own.sl2 h) hn (OwnX.reads h') (by omega)
      have ci' := fun (w' : World) (A2 B2 : Option Addr) (c2 d2 lo lo' : Nat) (h : Own w' lo (.slice A2 xs.length c2) xs) (h' : OwnX w' lo' (.slice B2 n d2) n cs) => implDoOps r c A2 B2 c2 n d2 xs cs w' (Own.sl2 h) hn (OwnX.reads h') (by omega)
      have hX := DoRowOps_len (r := r) (c := c) (n := n) (cs := cs) hn
      obtain ⟨⟨R, C, XS, K⟩, hq⟩ : ∃ q, doRes r c xs n cs = q := ⟨_, rfl⟩
      rw [hq] at cs' ci' hX
      have hX' : XS.length ≤ 1048576 := hX
      have CS : Hid (∀ (w' : World) (A2 B2 : Option Addr) (c2 d2 lo lo' : Nat), Own w' lo (.slice A2 xs.length c2) xs → OwnX w' lo' (.slice B2 n d2) n cs → Calls Try.prog 24 #[mv r c (.slice A2 xs.length c2), .slice B2 n d2] w' (RetMat w' R C XS K)) := cs'
      have CI : Hid (∀ (w' : World) (A2 B2 : Option Addr) (c2 d2 lo lo' : Nat), Own w' lo (.slice A2 xs.length c2) xs → OwnX w' lo' (.slice B2 n d2) n cs → Calls Try.prog 25 #[mv r c (.slice A2 xs.length c2), .slice B2 n d2] w' (RetMat w' R C XS K)) := ci'
      have eK : (K != K) = false := by simp
      have eM : ((1 + (XS.length : Int)) != (1 + (XS.length : Int))) = false := by simp
      have CMX := hide fun (w' : World) (s : Value) (lo : Nat) (zs : List Int) (h : OwnX w' lo s n zs) => markRowOpS s lo n zs (1 + (xs.length : Int)) w' h (by omega) (by omega) (by omega)
      have CEX := hide fun (w' : World) (s t : Value) (lo lo' : Nat) (zs : List Int) (h : OwnX w' lo s n zs) (h' : OwnX w' lo' t n zs) => eqX_own s t lo lo' n zs w' h h' (by omega)
      obtain ⟨N4, hN4⟩ : ∃ N4 : Int, 1 + (xs.length : Int) + ((n * 4 : Nat) : Int) = N4 := ⟨_, rfl⟩
      have hN40 : 0 ≤ N4 ∧ N4 ≤ 9000000 := by omega
      rw [hN4] at CMX
      clear cs' ci' hq hX hN4 r0 r1
      have N0 := hide (Box3.new (x := .int .i64 r) (y := .int .i64 c) (z := .slice A xs.length cap) w w.heap.size 32 rfl)
      have HB0 : Hid (Below w.heap.size w (w.alloc (.cells #[.int .i64 r, .int .i64 c, .slice A xs.length cap] 32))) := (Below.refl _ _).alloc (Nat.le_refl _) _
      go_enter Try.func6, Try.ntmps6
      obtain ⟨⟨c0_0, c0_1, c0_2⟩, _⟩ := N0.out
      go_wp2_with fail
      refine (szMatrix_yes r c A cap xs.length 1048576 _ (by omega) (by omega) (by omega)).mono ?_; rintro e w1 ⟨rfl, hb⟩
      have N1_ := hide (N0.out.call hb)
      clear N0
      have HB2_ := hide (kb_call HB0.out (Nat.le_refl _) hb)
      clear HB0
      have z_1 := hb.size
      (try simp only [World.size_alloc] at z_1)
      clear hb c0_0 c0_1 c0_2
      go_wp2_with fail
      refine (szRowOpS_yes B d n (1048576 - (xs.length : Int)) _ (by omega) (by omega) (by omega)).mono ?_; rintro e w1' ⟨rfl, rfl⟩
      obtain ⟨⟨c0_0, c0_1, c0_2⟩, _⟩ := N1_.out
      go_wp2_with fail
      refine (CM.out _ HB2_.out).mono ?_; rintro e w2 ⟨rfl, ho, hb⟩
      have N3_ := hide (N1_.out.call hb)
      clear N1_
      have HB4_ := hide (kb_call HB2_.out (Nat.le_refl _) hb)
      clear HB2_
      have z_2 := hb.size
      (try simp only [World.size_alloc] at z_2)
      have u5_ := hide (ho)
      clear hb ho c0_0 c0_1 c0_2
      go_wp2_with fail
      refine (CT.out _ HB4_.out).mono ?_; rintro e w3 ⟨rfl, ho, hb⟩
      have N6_ := hide (N3_.out.call hb)
      clear N3_
      have u7_ := hide (Own.below u5_.out hb)
      clear u5_
      have HB8_ := hide (kb_call HB4_.out (Nat.le_refl _) hb)
      clear HB4_
      have z_3 := hb.size
      (try simp only [World.size_alloc] at z_3)
      have x9_ := hide (ho)
      clear hb ho
      go_wp2_with fail
      refine (CS.out _ _ _ _ _ _ _ u7_.out x9_.out).mono ?_; rintro e w4 ⟨s_A0, rfl, ho, hb⟩
      obtain ⟨A0, z0, rfl, _⟩ := Own.sl ho
      have hl0 := Own.lt ho
      (try simp only [World.size_alloc] at hl0)
      have N10_ := hide (Box3.alloc (N6_.out.call hb) (.cells #[.int .i64 R, .int .i64 C, .slice A0 XS.length z0] 36))
      clear N6_
      have u11_ := hide (Own.alloc (Own.below u7_.out hb) (.cells #[.int .i64 R, .int .i64 C, .slice A0 XS.length z0] 36))
      clear u7_
      have x12_ := hide (OwnX.alloc (OwnX.below x9_.out hb) (.cells #[.int .i64 R, .int .i64 C, .slice A0 XS.length z0] 36))
      clear x9_
      have HB13_ := hide ((kb_call HB8_.out (Nat.le_refl _) hb).alloc (by have := HB8_.out.size; have := hb.size; omega) (.cells #[.int .i64 R, .int .i64 C, .slice A0 XS.length z0] 36))
      clear HB8_
      have z_4 := hb.size
      (try simp only [World.size_alloc] at z_4)
      have u14_ := hide (Own.alloc ho (.cells #[.int .i64 R, .int .i64 C, .slice A0 XS.length z0] 36))
      have b15_ := hide (Box3.new (x := .int .i64 R) (y := .int .i64 C) (z := .slice A0 XS.length z0) w4 w4.heap.size 36 rfl)
      clear hb ho
      clear u11_
      clear x12_
      obtain ⟨⟨c0_0, c0_1, c0_2⟩, _⟩ := N10_.out
      go_wp2_with fail
      refine (CM.out _ HB13_.out).mono ?_; rintro e w5 ⟨rfl, ho, hb⟩
      have hlx := Own.lt ho
      (try simp only [World.size_alloc] at ho hlx ⊢)
      have N16_ := hide (Box3.alloc (N10_.out.call hb) (.cells #[.int .i64 r, .int .i64 c, .slice (some ⟨w4.heap.size + 1 + 3, 0, none⟩) xs.length xs.length] 36))
      clear N10_
      have u17_ := hide (Own.alloc (Own.below u14_.out hb) (.cells #[.int .i64 r, .int .i64 c, .slice (some ⟨w4.heap.size + 1 + 3, 0, none⟩) xs.length xs.length] 36))
      clear u14_
      have b18_ := hide (Box3.alloc (b15_.out.call hb) (.cells #[.int .i64 r, .int .i64 c, .slice (some ⟨w4.heap.size + 1 + 3, 0, none⟩) xs.length xs.length] 36))
      clear b15_
      have HB19_ := hide ((kb_call HB13_.out (Nat.le_refl _) hb).alloc (by have := HB13_.out.size; have := hb.size; omega) (.cells #[.int .i64 r, .int .i64 c, .slice (some ⟨w4.heap.size + 1 + 3, 0, none⟩) xs.length xs.length] 36))
      clear HB13_
      have z_5 := hb.size
      (try simp only [World.size_alloc] at z_5)
      have u20_ := hide (Own.alloc ho (.cells #[.int .i64 r, .int .i64 c, .slice (some ⟨w4.heap.size + 1 + 3, 0, none⟩) xs.length xs.length] 36))
      have b21_ := hide (Box3.new (x := .int .i64 r) (y := .int .i64 c) (z := .slice (some ⟨w4.heap.size + 1 + 3, 0, none⟩) xs.length xs.length) w5 w5.heap.size 36 rfl)
      clear hb ho c0_0 c0_1 c0_2
      go_wp2_with fail
      refine (CT.out _ HB19_.out).mono ?_; rintro e w6 ⟨rfl, ho, hb⟩
      have hly := OwnX.lt ho
      (try simp only [World.size_alloc] at ho hly ⊢)
      have N22_ := hide (N16_.out.call hb)
      clear N16_
      have u23_ := hide (Own.below u17_.out hb)
      clear u17_
      have b24_ := hide (b18_.out.call hb)
      clear b18_
      have u25_ := hide (Own.below u20_.out hb)
      clear u20_
      have b26_ := hide (b21_.out.call hb)
      clear b21_
      have HB27_ := hide (kb_call HB19_.out (Nat.le_refl _) hb)
      clear HB19_
      have z_6 := hb.size
      (try simp only [World.size_alloc] at z_6)
      have x28_ := hide (ho)
      clear hb ho
      obtain ⟨⟨c0_0, c0_1, c0_2⟩, _⟩ := b26_.out
      go_wp2_with fail
      refine (CI.out _ _ _ _ _ _ _ u25_.out x28_.out).mono ?_; rintro e w7 ⟨s_A1, rfl, ho, hb⟩
      obtain ⟨A1, z1, rfl, _⟩ := Own.sl ho
      have hl1 := Own.lt ho
      (try simp only [World.size_alloc] at hl1)
      have N29_ := hide (Box3.alloc (N22_.out.call hb) (.cells #[.int .i64 R, .int .i64 C, .slice A1 XS.length z1] 36))
      clear N22_
      have u30_ := hide (Own.alloc (Own.below u23_.out hb) (.cells #[.int .i64 R, .int .i64 C, .slice A1 XS.length z1] 36))
      clear u23_
      have b31_ := hide (Box3.alloc (b24_.out.call hb) (.cells #[.int .i64 R, .int .i64 C, .slice A1 XS.length z1] 36))
      clear b24_
      have u32_ := hide (Own.alloc (Own.below u25_.out hb) (.cells #[.int .i64 R, .int .i64 C, .slice A1 XS.length z1] 36))
      clear u25_
      have b33_ := hide (Box3.alloc (b26_.out.call hb) (.cells #[.int .i64 R, .int .i64 C, .slice A1 XS.length z1] 36))
      clear b26_
      have x34_ := hide (OwnX.alloc (OwnX.below x28_.out hb) (.cells #[.int .i64 R, .int .i64 C, .slice A1 XS.length z1] 36))
      clear x28_
      have HB35_ := hide ((kb_call HB27_.out (Nat.le_refl _) hb).alloc (by have := HB27_.out.size; have := hb.size; omega) (.cells #[.int .i64 R, .int .i64 C, .slice A1 XS.length z1] 36))
      clear HB27_
      have z_7 := hb.size
      (try simp only [World.size_alloc] at z_7)
      have u36_ := hide (Own.alloc ho (.cells #[.int .i64 R, .int .i64 C, .slice A1 XS.length z1] 36))
      have b37_ := hide (Box3.new (x := .int .i64 R) (y := .int .i64 C) (z := .slice A1 XS.length z1) w7 w7.heap.size 36 rfl)
      clear hb ho c0_0 c0_1 c0_2
      obtain ⟨⟨c0_0, c0_1, c0_2⟩, _⟩ := b37_.out
      obtain ⟨⟨c1_0, c1_1, c1_2⟩, _⟩ := b31_.out
      go_wp2_with fail
      refine (eqMatrix_own R C _ _ _ _ XS _ u36_.out u30_.out (by omega)).mono ?_; rintro e w8 ⟨rfl, hb⟩
      have N38_ := hide (N29_.out.call hb)
      clear N29_
      have u39_ := hide (Own.below u30_.out hb)
      clear u30_
      have b40_ := hide (b31_.out.call hb)
      clear b31_
      have u41_ := hide (Own.below u32_.out hb)
      clear u32_
      have b42_ := hide (b33_.out.call hb)
      clear b33_
      have x43_ := hide (OwnX.below x34_.out hb)
      clear x34_
      have u44_ := hide (Own.below u36_.out hb)
      clear u36_
      have b45_ := hide (b37_.out.call hb)
      clear b37_
      have HB46_ := hide (kb_call HB35_.out (Nat.le_refl _) hb)
      clear HB35_
      have z_8 := hb.size
      (try simp only [World.size_alloc] at z_8)
      clear hb c0_0 c0_1 c0_2 c1_0 c1_1 c1_2
      obtain ⟨⟨n0, n1, n2⟩, _⟩ := N38_.out
      obtain ⟨⟨x0, x1, x2⟩, _⟩ := b42_.out
      go_wp2_with fail
      have KS : Hid (∀ w', Below w8.heap.size w8 w' → w'.cell? ⟨w.heap.size, 0, none⟩ = some (.int .i64 r) ∧ w'.cell? ⟨w.heap.size, 1, none⟩ = some (.int .i64 c) ∧ w'.cell? ⟨w.heap.size, 2, none⟩ = some (.slice A xs.length cap) ∧ w'.cell? ⟨w5.heap.size, 0, none⟩ = some (.int .i64 r) ∧ w'.cell? ⟨w5.heap.size, 1, none⟩ = some (.int .i64 c) ∧ w'.cell? ⟨w5.heap.size, 2, none⟩ = some (.slice (some ⟨w4.heap.size + 1 + 3, 0, none⟩) xs.length xs.length) ∧ Below w8.heap.size w8 w') := fun w' h => ⟨kc_call n0 h, kc_call n1 h, kc_call n2 h, kc_call x0 h, kc_call x1 h, kc_call x2 h, h⟩
      go_region_held3 (fun w' => w'.cell? ⟨w.heap.size, 0, none⟩ = some (.int .i64 r) ∧ w'.cell? ⟨w.heap.size, 1, none⟩ = some (.int .i64 c) ∧ w'.cell? ⟨w.heap.size, 2, none⟩ = some (.slice A xs.length cap) ∧ w'.cell? ⟨w5.heap.size, 0, none⟩ = some (.int .i64 r) ∧ w'.cell? ⟨w5.heap.size, 1, none⟩ = some (.int .i64 c) ∧ w'.cell? ⟨w5.heap.size, 2, none⟩ = some (.slice (some ⟨w4.heap.size + 1 + 3, 0, none⟩) xs.length xs.length) ∧ Below w8.heap.size w8 w')
        (first
          | (with_reducible exact KS.out _ (Below.drew (Below.refl _ _)))
          | (have hh := (‹_ ∧ _ ∧ _ ∧ _ ∧ _ ∧ _ ∧ Below w8.heap.size w8 _›).2.2.2.2.2.2
             with_reducible exact KS.out _ (kb_call hh (Nat.le_refl _) hb)))
        (first
          | (go_at_call 16; have hh := (‹_ ∧ _ ∧ _ ∧ _ ∧ _ ∧ _ ∧ Below w8.heap.size w8 _›).2.2.2.2.2.2; refine (CM.out _ (HB46_.out.trans (hh.mono HB46_.out.size))).mono ?_; rintro e w8b ⟨rfl, ho, hb⟩; have H3 := hide ho; clear ho hh)
          | (go_at_call 19; have hh := (‹_ ∧ _ ∧ _ ∧ _ ∧ _ ∧ _ ∧ Below w8.heap.size w8 _›).2.2.2.2.2.2; refine (eqMatrix_same r c _ _ _ _ xs _ (Own.reads (u41_.out.below hh)).2 (Own.reads H3.out).2 hn).mono ?_; rintro e w9 ⟨rfl, hb⟩; clear hh))
      have hb9 := (‹_ ∧ _ ∧ _ ∧ _ ∧ _ ∧ _ ∧ Below w8.heap.size w8 _›).2.2.2.2.2.2
      clear hb KS n0 n1 n2 x0 x1 x2 H3
      have N47_ := hide (N38_.out.call hb9)
      clear N38_
      have u48_ := hide (Own.below u39_.out hb9)
      clear u39_
      have b49_ := hide (b40_.out.call hb9)
      clear b40_
      have u50_ := hide (Own.below u41_.out hb9)
      clear u41_
      have b51_ := hide (b42_.out.call hb9)
      clear b42_
      have x52_ := hide (OwnX.below x43_.out hb9)
      clear x43_
      have u53_ := hide (Own.below u44_.out hb9)
      clear u44_
      have b54_ := hide (b45_.out.call hb9)
      clear b45_
      have HB55_ := hide (kb_call HB46_.out (Nat.le_refl _) hb9)
      clear HB46_
      have z_9 := hb9.size
      (try simp only [World.size_alloc] at z_9)
      clear hb9
      go_wp2_with fail
      refine (CT.out _ HB55_.out).mono ?_; rintro e w10 ⟨rfl, ho, hb⟩
      have N56_ := hide (N47_.out.call hb)
      clear N47_
      have u57_ := hide (Own.below u48_.out hb)
      clear u48_
      have b58_ := hide (b49_.out.call hb)
      clear b49_
      have u59_ := hide (Own.below u50_.out hb)
      clear u50_
      have b60_ := hide (b51_.out.call hb)
      clear b51_
      have x61_ := hide (OwnX.below x52_.out hb)
      clear x52_
      have u62_ := hide (Own.below u53_.out hb)
      clear u53_
      have b63_ := hide (b54_.out.call hb)
      clear b54_
      have HB64_ := hide (kb_call HB55_.out (Nat.le_refl _) hb)
      clear HB55_
      have z_10 := hb.size
      (try simp only [World.size_alloc] at z_10)
      have x65_ := hide (ho)
      clear hb ho
      go_wp2_with fail
      refine (CEX.out _ _ _ _ _ _ x61_.out x65_.out).mono ?_; rintro e w11 ⟨rfl, hb⟩
      have N66_ := hide (N56_.out.call hb)
      clear N56_
      have u67_ := hide (Own.below u57_.out hb)
      clear u57_
      have b68_ := hide (b58_.out.call hb)
      clear b58_
      have u69_ := hide (Own.below u59_.out hb)
      clear u59_
      have b70_ := hide (b60_.out.call hb)
      clear b60_
      have x71_ := hide (OwnX.below x61_.out hb)
      clear x61_
      have u72_ := hide (Own.below u62_.out hb)
      clear u62_
      have b73_ := hide (b63_.out.call hb)
      clear b63_
      have x74_ := hide (OwnX.below x65_.out hb)
      clear x65_
      have HB75_ := hide (kb_call HB64_.out (Nat.le_refl _) hb)
      clear HB64_
      have z_11 := hb.size
      (try simp only [World.size_alloc] at z_11)
      clear hb
      clear x74_
      obtain ⟨⟨c0_0, c0_1, c0_2⟩, _⟩ := b70_.out
      go_wp2_with fail
      refine (markMatrix r c _ _ xs 1 _ u69_.out (by omega) (by omega) (by omega)).mono ?_; rintro e w12 ⟨rfl, ho, hg⟩
      have z_12 := hg.size
      have N76_ := hide (N66_.out.grown hg (fun e => by have := hlx _ e.symm; omega))
      clear N66_
      have u77_ := hide (Own.keep u67_.out hg (apart hg hlx hl0 (by omega)))
      clear u67_
      have b78_ := hide (b68_.out.grown hg (fun e => by have := hlx _ e.symm; omega))
      clear b68_
      have u79_ := hide ho
      clear u69_
      have b80_ := hide (b70_.out.grown hg (fun e => by have := hlx _ e.symm; omega))
      clear b70_
      have x81_ := hide (OwnX.keep x71_.out hg (apart hg hlx hly (by omega)))
      clear x71_
      have u82_ := hide (Own.keep u72_.out hg (apart hg hlx hl1 (by omega)))
      clear u72_
      have b83_ := hide (b73_.out.grown hg (fun e => by have := hlx _ e.symm; omega))
      clear b73_
      have HB84_ := hide (below_mark HB75_.out hg hlx (by omega) (by have := HB75_.out.size; omega))
      clear HB75_
      clear hg ho c0_0 c0_1 c0_2
      clear u79_
      go_wp2_with fail
      refine (CMX.out _ _ _ _ x81_.out).mono ?_; rintro e w13 ⟨rfl, ho, hg⟩
      have z_13 := hg.size
      have N85_ := hide (N76_.out.grown hg (fun e => by have := hly _ e.symm; omega))
      clear N76_
      have u86_ := hide (Own.keep u77_.out hg (apart hg hly hl0 (by omega)))
      clear u77_
      have b87_ := hide (b78_.out.grown hg (fun e => by have := hly _ e.symm; omega))
      clear b78_
      have b88_ := hide (b80_.out.grown hg (fun e => by have := hly _ e.symm; omega))
      clear b80_
      have x89_ := hide ho
      clear x81_
      have u90_ := hide (Own.keep u82_.out hg (apart hg hly hl1 (by omega)))
      clear u82_
      have b91_ := hide (b83_.out.grown hg (fun e => by have := hly _ e.symm; omega))
      clear b83_
      have HB92_ := hide (below_mark HB84_.out hg hly (by omega) (by have := HB84_.out.size; omega))
      clear HB84_
      clear hg ho
      clear x89_
      clear b88_
      obtain ⟨⟨c0_0, c0_1, c0_2⟩, _⟩ := b91_.out
      obtain ⟨⟨c1_0, c1_1, c1_2⟩, _⟩ := b87_.out
      go_wp2_with fail
      refine (eqMatrix_own R C _ _ _ _ XS _ u90_.out u86_.out (by omega)).mono ?_; rintro e w14 ⟨rfl, hb⟩
      have N93_ := hide (N85_.out.call hb)
      clear N85_
      have u94_ := hide (Own.below u86_.out hb)
      clear u86_
      have b95_ := hide (b87_.out.call hb)
      clear b87_
      have u96_ := hide (Own.below u90_.out hb)
      clear u90_
      have b97_ := hide (b91_.out.call hb)
      clear b91_
      have HB98_ := hide (kb_call HB92_.out (Nat.le_refl _) hb)
      clear HB92_
      have z_14 := hb.size
      (try simp only [World.size_alloc] at z_14)
      clear hb c0_0 c0_1 c0_2 c1_0 c1_1 c1_2
      obtain ⟨⟨c0_0, c0_1, c0_2⟩, _⟩ := b97_.out
      go_wp2_with fail
      refine (markMatrix R C _ _ XS 1 _ u96_.out (by omega) (by omega) (by omega)).mono ?_; rintro e w15 ⟨rfl, ho, hg⟩
      have z_15 := hg.size
      have N99_ := hide (N93_.out.grown hg (fun e => by have := hl1 _ e.symm; omega))
      clear N93_
      have u100_ := hide (Own.keep u94_.out hg (apart hg hl1 hl0 (by omega)))
      clear u94_
      have b101_ := hide (b95_.out.grown hg (fun e => by have := hl1 _ e.symm; omega))
      clear b95_
      have u102_ := hide ho
      clear u96_
      have b103_ := hide (b97_.out.grown hg (fun e => by have := hl1 _ e.symm; omega))
      clear b97_
      have HB104_ := hide (below_mark HB98_.out hg hl1 (by omega) (by have := HB98_.out.size; omega))
      clear HB98_
      clear hg ho c0_0 c0_1 c0_2
      obtain ⟨⟨c0_0, c0_1, c0_2⟩, _⟩ := b103_.out
      go_wp2_with fail
      refine (heldMatrix_own R C _ _ 1 XS.length _ u102_.out (by omega) (by omega) (by omega)).mono ?_; rintro e w16 ⟨rfl, hb⟩
      have N105_ := hide (N99_.out.call hb)
      clear N99_
      have u106_ := hide (Own.below u100_.out hb)
      clear u100_
      have b107_ := hide (b101_.out.call hb)
      clear b101_
      have u108_ := hide (Own.below u102_.out hb)
      clear u102_
      have b109_ := hide (b103_.out.call hb)
      clear b103_
      have HB110_ := hide (kb_call HB104_.out (Nat.le_refl _) hb)
      clear HB104_
      have z_16 := hb.size
      (try simp only [World.size_alloc] at z_16)
      clear hb c0_0 c0_1 c0_2
      obtain ⟨⟨c0_0, c0_1, c0_2⟩, _⟩ := N105_.out
      go_wp2_with fail
      refine (CM.out _ HB110_.out).mono ?_; rintro e w17 ⟨rfl, ho, hb⟩
      have N111_ := hide (N105_.out.call hb)
      clear N105_
      have u112_ := hide (Own.below u106_.out hb)
      clear u106_
      have b113_ := hide (b107_.out.call hb)
      clear b107_
      have u114_ := hide (Own.below u108_.out hb)
      clear u108_
      have b115_ := hide (b109_.out.call hb)
      clear b109_
      have HB116_ := hide (kb_call HB110_.out (Nat.le_refl _) hb)
      clear HB110_
      have z_17 := hb.size
      (try simp only [World.size_alloc] at z_17)
      have u117_ := hide (ho)
      clear hb ho c0_0 c0_1 c0_2
      go_wp2_with fail
      refine (CT.out _ HB116_.out).mono ?_; rintro e w18 ⟨rfl, ho, hb⟩
      have N118_ := hide (N111_.out.call hb)
      clear N111_
      have u119_ := hide (Own.below u112_.out hb)
      clear u112_
      have b120_ := hide (b113_.out.call hb)
      clear b113_
      have u121_ := hide (Own.below u114_.out hb)
      clear u114_
      have b122_ := hide (b115_.out.call hb)
      clear b115_
      have u123_ := hide (Own.below u117_.out hb)
      clear u117_
      have HB124_ := hide (kb_call HB116_.out (Nat.le_refl _) hb)
      clear HB116_
      have z_18 := hb.size
      (try simp only [World.size_alloc] at z_18)
      have x125_ := hide (ho)
      clear hb ho
      go_wp2_with fail
      refine (CI.out _ _ _ _ _ _ _ u123_.out x125_.out).mono ?_; rintro e w19 ⟨s_A2, rfl, ho, hb⟩
      obtain ⟨A2, z2, rfl, _⟩ := Own.sl ho
      have hl2 := Own.lt ho
      (try simp only [World.size_alloc] at hl2)
      have N126_ := hide (Box3.alloc (N118_.out.call hb) (.cells #[.int .i64 R, .int .i64 C, .slice A2 XS.length z2] 36))
      clear N118_
      have u127_ := hide (Own.alloc (Own.below u119_.out hb) (.cells #[.int .i64 R, .int .i64 C, .slice A2 XS.length z2] 36))
      clear u119_
      have b128_ := hide (Box3.alloc (b120_.out.call hb) (.cells #[.int .i64 R, .int .i64 C, .slice A2 XS.length z2] 36))
      clear b120_
      have u129_ := hide (Own.alloc (Own.below u121_.out hb) (.cells #[.int .i64 R, .int .i64 C, .slice A2 XS.length z2] 36))
      clear u121_
      have b130_ := hide (Box3.alloc (b122_.out.call hb) (.cells #[.int .i64 R, .int .i64 C, .slice A2 XS.length z2] 36))
      clear b122_
      have u131_ := hide (Own.alloc (Own.below u123_.out hb) (.cells #[.int .i64 R, .int .i64 C, .slice A2 XS.length z2] 36))
      clear u123_
      have x132_ := hide (OwnX.alloc (OwnX.below x125_.out hb) (.cells #[.int .i64 R, .int .i64 C, .slice A2 XS.length z2] 36))
      clear x125_
      have HB133_ := hide ((kb_call HB124_.out (Nat.le_refl _) hb).alloc (by have := HB124_.out.size; have := hb.size; omega) (.cells #[.int .i64 R, .int .i64 C, .slice A2 XS.length z2] 36))
      clear HB124_
      have z_19 := hb.size
      (try simp only [World.size_alloc] at z_19)
      have u134_ := hide (Own.alloc ho (.cells #[.int .i64 R, .int .i64 C, .slice A2 XS.length z2] 36))
      have b135_ := hide (Box3.new (x := .int .i64 R) (y := .int .i64 C) (z := .slice A2 XS.length z2) w19 w19.heap.size 36 rfl)
      clear hb ho
      obtain ⟨⟨c0_0, c0_1, c0_2⟩, _⟩ := b135_.out
      obtain ⟨⟨c1_0, c1_1, c1_2⟩, _⟩ := b128_.out
      go_wp2_with fail
      refine (eqMatrix_own R C _ _ _ _ XS _ u134_.out u127_.out (by omega)).mono ?_; rintro e w20 ⟨rfl, hb⟩
      have N136_ := hide (N126_.out.call hb)
      clear N126_
      have u137_ := hide (Own.below u127_.out hb)
      clear u127_
      have b138_ := hide (b128_.out.call hb)
      clear b128_
      have u139_ := hide (Own.below u129_.out hb)
      clear u129_
      have b140_ := hide (b130_.out.call hb)
      clear b130_
      have u141_ := hide (Own.below u131_.out hb)
      clear u131_
      have x142_ := hide (OwnX.below x132_.out hb)
      clear x132_
      have u143_ := hide (Own.below u134_.out hb)
      clear u134_
      have b144_ := hide (b135_.out.call hb)
      clear b135_
      have HB145_ := hide (kb_call HB133_.out (Nat.le_refl _) hb)
      clear HB133_
      have z_20 := hb.size
      (try simp only [World.size_alloc] at z_20)
      clear hb c0_0 c0_1 c0_2 c1_0 c1_1 c1_2
      obtain ⟨⟨c0_0, c0_1, c0_2⟩, _⟩ := b140_.out
      go_wp2_with fail
      refine (heldMatrix_own R C _ _ 1 XS.length _ u139_.out (by omega) (by omega) (by omega)).mono ?_; rintro e w21 ⟨rfl, hb⟩
      have N146_ := hide (N136_.out.call hb)
      clear N136_
      have u147_ := hide (Own.below u137_.out hb)
      clear u137_
      have b148_ := hide (b138_.out.call hb)
      clear b138_
      have u149_ := hide (Own.below u139_.out hb)
      clear u139_
      have b150_ := hide (b140_.out.call hb)
      clear b140_
      have u151_ := hide (Own.below u141_.out hb)
      clear u141_
      have x152_ := hide (OwnX.below x142_.out hb)
      clear x142_
      have u153_ := hide (Own.below u143_.out hb)
      clear u143_
      have b154_ := hide (b144_.out.call hb)
      clear b144_
      have HB155_ := hide (kb_call HB145_.out (Nat.le_refl _) hb)
      clear HB145_
      have z_21 := hb.size
      (try simp only [World.size_alloc] at z_21)
      clear hb c0_0 c0_1 c0_2
      go_wp2
      go_ret
      exact ⟨rfl, HB155_.out⟩
    · go_enter Try.func6, Try.ntmps6
      go_wp2_with fail
      refine (szMatrix_yes r c A cap xs.length 1048576 _ (by omega) (by omega) (by omega)).mono ?_; rintro e w1 ⟨rfl, hb⟩
      have HB := hide (Below.trans (Below.alloc (Below.refl _ w) (Nat.le_refl _) (.cells #[.int .i64 r, .int .i64 c, .slice A xs.length cap] 32)) (hb.mono (by simp)) : Below w.heap.size w w1)
      clear hb
      go_wp2_with fail
      refine (szRowOpS_no B d n (1048576 - (xs.length : Int)) _ (by omega) (by omega) (by omega) (by omega)).mono ?_; rintro e w1' ⟨rfl, rfl⟩
      go_wp2
      go_ret
      exact ⟨rfl, HB.out⟩
  · go_enter Try.func6, Try.ntmps6
    go_wp2_with fail
    refine (szMatrix_no r c A cap xs.length 1048576 _ (by omega) (by omega) (by omega) (by omega)).mono ?_; rintro e w1 ⟨rfl, hb⟩
    have HB := hide (Below.trans (Below.alloc (Below.refl _ w) (Nat.le_refl _) (.cells #[.int .i64 r, .int .i64 c, .slice A xs.length cap] 32)) (hb.mono (by simp)) : Below w.heap.size w w1)
    clear hb
    go_wp2
    go_ret
    exact ⟨rfl, HB.out⟩
  end Go.Proofs.Ythbmmoajfghjbaa
