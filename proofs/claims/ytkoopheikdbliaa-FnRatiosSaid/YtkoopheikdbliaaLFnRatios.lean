/- The walk of FnRatios. -/
import Derived.Test.YtkoopheikdbliaaDrawT
import Derived.Test.YtkoopheikdbliaaRatG
import Derived.Test.YtkoopheikdbliaaRatL
import Derived.Test.YtkoopheikdbliaaKeep
import Derived.Deep.RegionHeld3
import Derived.Deep.RegionWith
import Derived.Deep.DeepCutAuto
namespace Go.Proofs.Ytkoopheikdbliaa
open Go.RowKit
set_option linter.unusedSimpArgs false
set_option linter.unusedVariables false
theorem kc_callr {w w1 : World} (hb : Below w.heap.size w w1) {a : Addr} {v : Value} (h : w.cell? a = some v) : w1.cell? a = some v := kc_call h hb
theorem kb_callr {B : Nat} {W w w1 : World} (hb : Below w.heap.size w w1) (h : Below W.heap.size W w) : Below W.heap.size W w1 := kb_call h (Nat.le_refl _) hb
set_option maxHeartbeats 16000000 in
theorem walkFnRatios (A : Option Addr) (n cap : Nat) (xs : List Int) (w : World) (hs : SlBArg w A n cap xs) :
    Calls Try.prog 8 #[.slice A n cap] w fun e w' => e = .returned (.bool true) ∧ Below w.heap.size w w' := by
  obtain ⟨hx, hm, hs⟩ := hs
  clear hx
  unfold maxLen at hm
  by_cases hn : n ≤ 1048576
  · have HS := hide hs; clear hs
    go_enter Try.func8, Try.ntmps8
    go_wp2_with fail
    refine (lawBig_no A n cap _ hn).mono ?_; rintro e w0 ⟨rfl, rfl⟩
    go_wp2_with fail
    refine (drawAdd A n cap _ HS.out hn).mono ?_; rintro e w1 ⟨⟨a, b, c, d, rfl, ha, hb, hc, hd⟩, hB⟩
    have HB := hide hB; clear hB
    clear ha hb hc hd
    have ci1 := fun w => implAddRatios a b c d w
    have ci3 := fun w => implAddRatios c d a b w
    have ci2 := fun w => implDivideRatios a b c d w
    have ci4 := fun w => implMultiplyRatios a b c d w
    have ci5 := fun w => implMultiplyRatios c d a b w
    have un1 := @add_undone a b c d
    have un2 := @div_undone a b c d
    rw [addR_comm c d a b] at ci3
    rw [mulR_comm c d a b] at ci5
    generalize addR a b c d = s at *
    obtain ⟨s1, s2⟩ := s
    generalize divR' a b c d = q at *
    obtain ⟨q1, q2⟩ := q
    generalize mulR a b c d = m at *
    obtain ⟨m1, m2⟩ := m
    simp only at ci1 ci2 ci3 ci4 ci5 un1 un2
    have C1 := hide ci1
    have C2 := hide ci2
    have C3 := hide ci3
    have C4 := hide ci4
    have C5 := hide ci5
    have U1 := hide un1
    have U2 := hide un2
    clear ci1 ci2 ci3 ci4 ci5 un1 un2
    have g3 := hide ((Box2.new (x := .int .i64 a) (y := .int .i64 b) w1 w1.heap.size 24 rfl).alloc (.cells #[.int .i64 c, .int .i64 d] 24))
    have g4 := hide (Box2.new (x := .int .i64 c) (y := .int .i64 d) (w1.alloc (.cells #[.int .i64 a, .int .i64 b] 24)) (w1.heap.size + 1) 24 (by simp))
    have HB1 : Hid (Below w.heap.size w ((w1.alloc (.cells #[.int .i64 a, .int .i64 b] 24)).alloc (.cells #[.int .i64 c, .int .i64 d] 24))) := (HB.out.alloc HB.out.size _).alloc (by have := HB.out.size; simp; omega) _
    go_wp2_with fail
    refine (C1.out _).mono ?_; rintro e w2 ⟨rfl, hb⟩
    have h3 := hide (g3.out.call hb |>.alloc (.cells #[.int .i64 s1, .int .i64 s2] 24))
    have h4 := hide (g4.out.call hb |>.alloc (.cells #[.int .i64 s1, .int .i64 s2] 24))
    have h5 := hide (Box2.new (x := .int .i64 s1) (y := .int .i64 s2) w2 w2.heap.size 24 rfl)
    have HB2 := hide ((kb_call HB1.out (Nat.le_refl _) hb).alloc (by have := HB1.out.size; have := hb.size; omega) (.cells #[.int .i64 s1, .int .i64 s2] 24))
    clear g3 g4 hb
    obtain ⟨⟨x0, x1⟩, _⟩ := h3.out
    obtain ⟨⟨y0, y1⟩, _⟩ := h4.out
    go_wp2_with fail
    refine (C2.out _).mono ?_; rintro e w3 ⟨rfl, hb⟩
    have g3 := hide (h3.out.call hb |>.alloc (.cells #[.int .i64 q1, .int .i64 q2] 24))
    have g4 := hide (h4.out.call hb |>.alloc (.cells #[.int .i64 q1, .int .i64 q2] 24))
    have g5 := hide (h5.out.call hb |>.alloc (.cells #[.int .i64 q1, .int .i64 q2] 24))
    have g6 := hide (Box2.new (x := .int .i64 q1) (y := .int .i64 q2) w3 w3.heap.size 24 rfl)
    have HB3 := hide ((kb_call HB2.out (Nat.le_refl _) hb).alloc (by have := HB2.out.size; have := hb.size; omega) (.cells #[.int .i64 q1, .int .i64 q2] 24))
    have p3 := (g3.out).lt
    have p4 := (g4.out).lt
    have p5 := (g5.out).lt
    have p6 := (g6.out).lt
    clear h3 h4 h5 hb x0 x1 y0 y1
    obtain ⟨⟨x0, x1⟩, _⟩ := g3.out
    obtain ⟨⟨y0, y1⟩, _⟩ := g4.out
    obtain ⟨⟨z0, z1⟩, _⟩ := g5.out
    obtain ⟨⟨t0, t1⟩, _⟩ := g6.out
    go_wp2_with fail
    have HW := hide HB3.out
    clear HB HB1 HB2 HS
    have hB := HW.out
    go_region_held3 (fun w' => w'.cell? ⟨w1.heap.size, 0, none⟩ = some (.int .i64 a) ∧ w'.cell? ⟨w1.heap.size, 1, none⟩ = some (.int .i64 b) ∧ w'.cell? ⟨w1.heap.size + 1, 0, none⟩ = some (.int .i64 c) ∧ w'.cell? ⟨w1.heap.size + 1, 1, none⟩ = some (.int .i64 d) ∧ w'.cell? ⟨w2.heap.size, 0, none⟩ = some (.int .i64 s1) ∧ w'.cell? ⟨w2.heap.size, 1, none⟩ = some (.int .i64 s2) ∧ w'.cell? ⟨w3.heap.size, 0, none⟩ = some (.int .i64 q1) ∧ w'.cell? ⟨w3.heap.size, 1, none⟩ = some (.int .i64 q2) ∧ Below w.heap.size w w')
      (first
        | exact kc8_call (by assumption) (by assumption)
        | exact kc8_drew (by assumption)
        | (refine ⟨?_, ?_, ?_, ?_, ?_, ?_, ?_, ?_, ?_⟩ <;> first | assumption | (go_simp; done) | exact HW.out.drew))
      (first
        | (go_at_call 11; refine (C3.out _).mono ?_; rintro e w4 ⟨rfl, hb⟩)
        | (go_at_call 16; (with_reducible refine (C4.out _).mono ?_); rintro e w4 ⟨rfl, hb⟩)
        | (go_at_call 16; (with_reducible refine (C5.out _).mono ?_); rintro e w4 ⟨rfl, hb⟩))
    go_wp2_with fail
    have cn := fun w => implNegateRatio c d w
    have ck := fun w => specIsRatio s1 s2 w
    have cq := fun w => specIsRatio q1 q2 w
    have cx := fun w => implCompareRatios a b c d w
    have cy := fun w => implCompareRatios c d a b w
    have hcmp := cmp_law a b c d
    have u1 : isRatio s1 s2 = true → ∀ w, Calls Try.prog 11 #[rv s1 s2, rv (negR c d).1 (negR c d).2] w fun e w' => e = .returned (rv a b) ∧ Below w.heap.size w w' := fun h w => by
      have := implAddRatios s1 s2 (negR c d).1 (negR c d).2 w
      rwa [U1.out h] at this
    have u2 : isRatio q1 q2 = true → ∀ w, Calls Try.prog 16 #[rv q1 q2, rv c d] w fun e w' => e = .returned (rv a b) ∧ Below w.heap.size w w' := fun h w => by
      have := implMultiplyRatios q1 q2 c d w
      rwa [U2.out h] at this
    generalize negR c d = ng at *
    obtain ⟨n1, n2⟩ := ng
    simp only at cn u1
    have HU1 := hide u1
    have HU2 := hide u2
    generalize cmpR a b c d = X at *
    generalize cmpR c d a b = Y at *
    have HCMP := hide hcmp
    have CN := hide cn
    have CX := hide cx
    have CY := hide cy
    clear cn cx cy hcmp U1 U2 u1 u2 x0 x1 y0 y1 z0 z1 t0 t1 hB
    obtain ⟨x0, x1, y0, y1, z0, z1, t0, t1, hB⟩ := ‹_ ∧ _ ∧ _ ∧ _ ∧ _ ∧ _ ∧ _ ∧ _ ∧ Below w.heap.size w w4›
    have o3 := World.block_lt_of_cell? _ ⟨w1.heap.size, 0, none⟩ x0
    have o4 := World.block_lt_of_cell? _ ⟨w1.heap.size + 1, 0, none⟩ y0
    have o5 := World.block_lt_of_cell? _ ⟨w2.heap.size, 0, none⟩ z0
    have o6 := World.block_lt_of_cell? _ ⟨w3.heap.size, 0, none⟩ t0
    dsimp only at o3 o4 o5 o6
    go_cut [55] (fun sv wx => sv = .bool false ∧ wx.cell? ⟨w1.heap.size, 0, none⟩ = some (.int .i64 a) ∧ wx.cell? ⟨w1.heap.size, 1, none⟩ = some (.int .i64 b) ∧ wx.cell? ⟨w1.heap.size + 1, 0, none⟩ = some (.int .i64 c) ∧ wx.cell? ⟨w1.heap.size + 1, 1, none⟩ = some (.int .i64 d) ∧ Below w.heap.size w wx)
    case first =>
      rcases Bool.eq_false_or_eq_true (isRatio s1 s2) with ks | ks <;> rcases Bool.eq_false_or_eq_true (isRatio q1 q2) with kq | kq
      · rw [ks] at ck
        rw [kq] at cq
        have CK := hide ck
        have CQ := hide cq
        have CA := hide (HU1.out ks)
        have CM := hide (HU2.out kq)
        clear ck cq ks kq HU1 HU2
        go_region_held3 (fun w' => w'.cell? ⟨w1.heap.size, 0, none⟩ = some (.int .i64 a) ∧ w'.cell? ⟨w1.heap.size, 1, none⟩ = some (.int .i64 b) ∧ w'.cell? ⟨w1.heap.size + 1, 0, none⟩ = some (.int .i64 c) ∧ w'.cell? ⟨w1.heap.size + 1, 1, none⟩ = some (.int .i64 d) ∧ w'.cell? ⟨w2.heap.size, 0, none⟩ = some (.int .i64 s1) ∧ w'.cell? ⟨w2.heap.size, 1, none⟩ = some (.int .i64 s2) ∧ w'.cell? ⟨w3.heap.size, 0, none⟩ = some (.int .i64 q1) ∧ w'.cell? ⟨w3.heap.size, 1, none⟩ = some (.int .i64 q2) ∧ Below w.heap.size w w')
          (first
            | exact kc8_call (by assumption) (by assumption)
            | exact kc8_drew (by assumption)
            | (refine ⟨?_, ?_, ?_, ?_, ?_, ?_, ?_, ?_, ?_⟩ <;> first | assumption | (go_simp; done) | exact hB.drew))
          (first
            | (go_at_call 25; (with_reducible refine (CK.out _).mono ?_); rintro e w5 ⟨rfl, hb⟩)
            | (go_at_call 25; (with_reducible refine (CQ.out _).mono ?_); rintro e w5 ⟨rfl, hb⟩)
            | (go_at_call 28; (with_reducible refine (CN.out _).mono ?_); rintro e w5 ⟨rfl, hb⟩)
            | (go_at_call 11; (with_reducible refine (CA.out _).mono ?_); rintro e w5 ⟨rfl, hb⟩)
            | (go_at_call 16; (with_reducible refine (CM.out _).mono ?_); rintro e w5 ⟨rfl, hb⟩))
        all_goals go_wp2_with fail
        all_goals go_meet
        all_goals (obtain ⟨r0, r1, r2, r3, r4, r5, r6, r7, r8⟩ := ‹_ ∧ _ ∧ _ ∧ _ ∧ _ ∧ _ ∧ _ ∧ _ ∧ Below w.heap.size w w5›; exact ⟨rfl, r0, r1, r2, r3, r8⟩)
      · rw [ks] at ck
        rw [kq] at cq
        have CK := hide ck
        have CQ := hide cq
        have CA := hide (HU1.out ks)
        clear ck cq ks kq HU1 HU2 p3 p4 p5 p6 HW HB3 HCMP CX CY C1 C2 C3 C4 C5 g3 g4 g5 g6 o3 o4 o5 o6
        have hSS : w4.cell? ⟨w1.heap.size, 0, none⟩ = some (.int .i64 a) ∧ w4.cell? ⟨w1.heap.size, 1, none⟩ = some (.int .i64 b) ∧ w4.cell? ⟨w1.heap.size + 1, 0, none⟩ = some (.int .i64 c) ∧ w4.cell? ⟨w1.heap.size + 1, 1, none⟩ = some (.int .i64 d) ∧ w4.cell? ⟨w2.heap.size, 0, none⟩ = some (.int .i64 s1) ∧ w4.cell? ⟨w2.heap.size, 1, none⟩ = some (.int .i64 s2) ∧ w4.cell? ⟨w3.heap.size, 0, none⟩ = some (.int .i64 q1) ∧ w4.cell? ⟨w3.heap.size, 1, none⟩ = some (.int .i64 q2) ∧ Below w.heap.size w w4 := ⟨x0, x1, y0, y1, z0, z1, t0, t1, hB⟩
        clear x0 x1 y0 y1 z0 z1 t0 t1 hB
        have ea : (a == a) = true := by simp
        have eb : (b == b) = true := by simp
        refine wp_region_held_drew (S := fun w' => w'.cell? ⟨w1.heap.size, 0, none⟩ = some (.int .i64 a) ∧ w'.cell? ⟨w1.heap.size, 1, none⟩ = some (.int .i64 b) ∧ w'.cell? ⟨w1.heap.size + 1, 0, none⟩ = some (.int .i64 c) ∧ w'.cell? ⟨w1.heap.size + 1, 1, none⟩ = some (.int .i64 d) ∧ w'.cell? ⟨w2.heap.size, 0, none⟩ = some (.int .i64 s1) ∧ w'.cell? ⟨w2.heap.size, 1, none⟩ = some (.int .i64 s2) ∧ w'.cell? ⟨w3.heap.size, 0, none⟩ = some (.int .i64 q1) ∧ w'.cell? ⟨w3.heap.size, 1, none⟩ = some (.int .i64 q2) ∧ Below w.heap.size w w') (by kernel_rfl) (kc8_drew hSS) (fun hS0 => ?_)
        refine wpAnyH_take (i := 0) (oi := { dst := some 35, op := Op.load 24 (Operand.tmp 5), type := 24, pos := "laws.go:152", after := #[], guard := none }) (v := .agg #[.int .i64 s1, .int .i64 s2]) rfl (by kernel_rfl) (by kernel_rfl) (by kernel_rfl) (fun _ _ _ h => h) (Or.inl ⟨by rfl, ?_⟩) hS0 ?_
        · intro wz hSw; (try dsimp only at hSw); obtain ⟨k0, k1, k2, k3, k4, k5, k6, k7, _⟩ := hSw; go_simp
        try simp only [Act.put, List.setIfInBounds_toArray, List.set_cons_zero, List.set_cons_succ]
        refine wpAnyH_ready (rs := [1]) (by kernel_rfl) (by simp) ?_
        refine AllReadyH.cons (o := { dst := some 36, op := Op.call { callee := Callee.value (Operand.func 25), args := #[Operand.tmp 35], argTypes := #[24] }, type := 4, pos := "laws.go:152", after := #[{ on := 0, ground := Ground.data }], guard := none }) rfl (fun K hK => ?_) AllReadyH.nil
        go_simp
        refine (CK.out _).mono ?_; rintro e v1 ⟨rfl, hb⟩
        go_wp2_with fail
        refine hK.out _ _ ?_ (fun hS1 => ?_)
        · exact kc8_call hb hS0
        clear hK K hb hS0
        try simp only [Act.put, List.setIfInBounds_toArray, List.set_cons_zero, List.set_cons_succ]
        refine wpAnyH_take (i := 2) (oi := { dst := some 37, op := Op.move (Operand.tmp 36), type := 4, pos := "laws.go:152", after := #[{ on := 1, ground := Ground.data }, { on := 1, ground := Ground.chain }], guard := none }) (v := .bool true) rfl (by kernel_rfl) (by kernel_rfl) (by kernel_rfl) (fun _ _ _ h => h) (Or.inl ⟨by rfl, ?_⟩) hS1 ?_
        · intro wz hSw; (try dsimp only at hSw); obtain ⟨k0, k1, k2, k3, k4, k5, k6, k7, _⟩ := hSw; go_simp
        try simp only [Act.put, List.setIfInBounds_toArray, List.set_cons_zero, List.set_cons_succ]
        refine wpAnyH_take (i := 3) (oi := { dst := some 38, op := Op.load 24 (Operand.tmp 5), type := 24, pos := "laws.go:152", after := #[{ on := 2, ground := Ground.guard }], guard := some (2, true) }) (v := .agg #[.int .i64 s1, .int .i64 s2]) rfl (by kernel_rfl) (by kernel_rfl) (by kernel_rfl) (fun _ _ _ h => h) (Or.inl ⟨by rfl, ?_⟩) hS1 ?_
        · intro wz hSw; (try dsimp only at hSw); obtain ⟨k0, k1, k2, k3, k4, k5, k6, k7, _⟩ := hSw; go_simp
        try simp only [Act.put, List.setIfInBounds_toArray, List.set_cons_zero, List.set_cons_succ]
        refine wpAnyH_take (i := 4) (oi := { dst := some 39, op := Op.load 24 (Operand.tmp 4), type := 24, pos := "laws.go:152", after := #[{ on := 2, ground := Ground.guard }], guard := some (2, true) }) (v := .agg #[.int .i64 c, .int .i64 d]) rfl (by kernel_rfl) (by kernel_rfl) (by kernel_rfl) (fun _ _ _ h => h) (Or.inl ⟨by rfl, ?_⟩) hS1 ?_
        · intro wz hSw; (try dsimp only at hSw); obtain ⟨k0, k1, k2, k3, k4, k5, k6, k7, _⟩ := hSw; go_simp
        try simp only [Act.put, List.setIfInBounds_toArray, List.set_cons_zero, List.set_cons_succ]
        refine wpAnyH_take (i := 7) (oi := { dst := some 42, op := Op.load 24 (Operand.tmp 3), type := 24, pos := "laws.go:152", after := #[{ on := 2, ground := Ground.guard }], guard := some (2, true) }) (v := .agg #[.int .i64 a, .int .i64 b]) rfl (by kernel_rfl) (by kernel_rfl) (by kernel_rfl) (fun _ _ _ h => h) (Or.inl ⟨by rfl, ?_⟩) hS1 ?_
        · intro wz hSw; (try dsimp only at hSw); obtain ⟨k0, k1, k2, k3, k4, k5, k6, k7, _⟩ := hSw; go_simp
        try simp only [Act.put, List.setIfInBounds_toArray, List.set_cons_zero, List.set_cons_succ]
        refine wpAnyH_ready (rs := [5]) (by kernel_rfl) (by simp) ?_
        refine AllReadyH.cons (o := { dst := some 40, op := Op.call { callee := Callee.value (Operand.func 28), args := #[Operand.tmp 39], argTypes := #[24] }, type := 24, pos := "laws.go:152", after := #[{ on := 4, ground := Ground.data }, { on := 2, ground := Ground.chain }, { on := 2, ground := Ground.guard }], guard := some (2, true) }) rfl (fun K hK => ?_) AllReadyH.nil
        go_simp
        refine (CN.out _).mono ?_; rintro e v2 ⟨rfl, hb⟩
        go_wp2_with fail
        refine hK.out _ _ ?_ (fun hS2 => ?_)
        · exact kc8_call hb hS1
        clear hK K hb hS1
        try simp only [Act.put, List.setIfInBounds_toArray, List.set_cons_zero, List.set_cons_succ]
        refine wpAnyH_ready (rs := [6]) (by kernel_rfl) (by simp) ?_
        refine AllReadyH.cons (o := { dst := some 41, op := Op.call { callee := Callee.value (Operand.func 11), args := #[Operand.tmp 38, Operand.tmp 40], argTypes := #[24, 24] }, type := 24, pos := "laws.go:152", after := #[{ on := 3, ground := Ground.data }, { on := 5, ground := Ground.data }, { on := 5, ground := Ground.chain }, { on := 2, ground := Ground.guard }], guard := some (2, true) }) rfl (fun K hK => ?_) AllReadyH.nil
        go_simp
        refine (CA.out _).mono ?_; rintro e v3 ⟨rfl, hb⟩
        go_wp2_with fail
        refine hK.out _ _ ?_ (fun hS3 => ?_)
        · exact kc8_call hb hS2
        clear hK K hb hS2
        try simp only [Act.put, List.setIfInBounds_toArray, List.set_cons_zero, List.set_cons_succ]
        refine wpAnyH_take (i := 8) (oi := { dst := some 43, op := Op.binOp BinOp.neq 24 (Operand.tmp 41) (Operand.tmp 42) 24, type := 4, pos := "laws.go:152", after := #[{ on := 6, ground := Ground.data }, { on := 7, ground := Ground.data }, { on := 2, ground := Ground.guard }], guard := some (2, true) }) (v := .bool false) rfl (by kernel_rfl) (by kernel_rfl) (by kernel_rfl) (fun _ _ _ h => h) (Or.inl ⟨by rfl, ?_⟩) hS3 ?_
        · intro wz hSw; (try dsimp only at hSw); obtain ⟨k0, k1, k2, k3, k4, k5, k6, k7, _⟩ := hSw; go_simp
        try simp only [Act.put, List.setIfInBounds_toArray, List.set_cons_zero, List.set_cons_succ]
        refine wpAnyH_take (i := 9) (oi := { dst := some 44, op := Op.pick (Operand.tmp 37) (Operand.tmp 43) (Operand.const (Value.bool false)), type := 4, pos := "laws.go:152", after := #[{ on := 2, ground := Ground.data }, { on := 8, ground := Ground.data }], guard := none }) (v := .bool false) rfl (by kernel_rfl) (by kernel_rfl) (by kernel_rfl) (fun _ _ _ h => h) (Or.inl ⟨by rfl, ?_⟩) hS3 ?_
        · intro wz hSw; (try dsimp only at hSw); obtain ⟨k0, k1, k2, k3, k4, k5, k6, k7, _⟩ := hSw; go_simp
        try simp only [Act.put, List.setIfInBounds_toArray, List.set_cons_zero, List.set_cons_succ]
        refine wpAnyH_take (i := 10) (oi := { dst := some 45, op := Op.move (Operand.tmp 44), type := 4, pos := "laws.go:152", after := #[{ on := 9, ground := Ground.data }, { on := 6, ground := Ground.chain }], guard := none }) (v := .bool false) rfl (by kernel_rfl) (by kernel_rfl) (by kernel_rfl) (fun _ _ _ h => h) (Or.inl ⟨by rfl, ?_⟩) hS3 ?_
        · intro wz hSw; (try dsimp only at hSw); obtain ⟨k0, k1, k2, k3, k4, k5, k6, k7, _⟩ := hSw; go_simp
        try simp only [Act.put, List.setIfInBounds_toArray, List.set_cons_zero, List.set_cons_succ]
        refine wpAnyH_take (i := 11) (oi := { dst := some 46, op := Op.load 24 (Operand.tmp 6), type := 24, pos := "laws.go:152", after := #[{ on := 10, ground := Ground.guard }], guard := some (10, false) }) (v := .agg #[.int .i64 q1, .int .i64 q2]) rfl (by kernel_rfl) (by kernel_rfl) (by kernel_rfl) (fun _ _ _ h => h) (Or.inl ⟨by rfl, ?_⟩) hS3 ?_
        · intro wz hSw; (try dsimp only at hSw); obtain ⟨k0, k1, k2, k3, k4, k5, k6, k7, _⟩ := hSw; go_simp
        try simp only [Act.put, List.setIfInBounds_toArray, List.set_cons_zero, List.set_cons_succ]
        refine wpAnyH_ready (rs := [12]) (by kernel_rfl) (by simp) ?_
        refine AllReadyH.cons (o := { dst := some 47, op := Op.call { callee := Callee.value (Operand.func 25), args := #[Operand.tmp 46], argTypes := #[24] }, type := 4, pos := "laws.go:152", after := #[{ on := 11, ground := Ground.data }, { on := 10, ground := Ground.chain }, { on := 10, ground := Ground.guard }], guard := some (10, false) }) rfl (fun K hK => ?_) AllReadyH.nil
        go_simp
        refine (CQ.out _).mono ?_; rintro e v4 ⟨rfl, hb⟩
        go_wp2_with fail
        refine hK.out _ _ ?_ (fun hS4 => ?_)
        · exact kc8_call hb hS3
        clear hK K hb hS3
        try simp only [Act.put, List.setIfInBounds_toArray, List.set_cons_zero, List.set_cons_succ]
        refine wpAnyH_take (i := 13) (oi := { dst := some 48, op := Op.move (Operand.tmp 47), type := 4, pos := "laws.go:152", after := #[{ on := 12, ground := Ground.data }, { on := 12, ground := Ground.chain }, { on := 10, ground := Ground.guard }], guard := some (10, false) }) (v := .bool false) rfl (by kernel_rfl) (by kernel_rfl) (by kernel_rfl) (fun _ _ _ h => h) (Or.inl ⟨by rfl, ?_⟩) hS4 ?_
        · intro wz hSw; (try dsimp only at hSw); obtain ⟨k0, k1, k2, k3, k4, k5, k6, k7, _⟩ := hSw; go_simp
        try simp only [Act.put, List.setIfInBounds_toArray, List.set_cons_zero, List.set_cons_succ]
        refine wpAnyH_take (i := 14) (oi := { dst := some 49, op := Op.load 24 (Operand.tmp 6), type := 24, pos := "laws.go:152", after := #[{ on := 13, ground := Ground.guard }], guard := some (13, true) }) (v := undef) rfl (by kernel_rfl) (by kernel_rfl) (by kernel_rfl) (fun _ _ _ h => h) (Or.inr ⟨by rfl, rfl⟩) hS4 ?_
        try simp only [Act.put, List.setIfInBounds_toArray, List.set_cons_zero, List.set_cons_succ]
        refine wpAnyH_take (i := 15) (oi := { dst := some 50, op := Op.load 24 (Operand.tmp 4), type := 24, pos := "laws.go:152", after := #[{ on := 13, ground := Ground.guard }], guard := some (13, true) }) (v := undef) rfl (by kernel_rfl) (by kernel_rfl) (by kernel_rfl) (fun _ _ _ h => h) (Or.inr ⟨by rfl, rfl⟩) hS4 ?_
        try simp only [Act.put, List.setIfInBounds_toArray, List.set_cons_zero, List.set_cons_succ]
        refine wpAnyH_take (i := 17) (oi := { dst := some 52, op := Op.load 24 (Operand.tmp 3), type := 24, pos := "laws.go:152", after := #[{ on := 13, ground := Ground.guard }], guard := some (13, true) }) (v := undef) rfl (by kernel_rfl) (by kernel_rfl) (by kernel_rfl) (fun _ _ _ h => h) (Or.inr ⟨by rfl, rfl⟩) hS4 ?_
        try simp only [Act.put, List.setIfInBounds_toArray, List.set_cons_zero, List.set_cons_succ]
        refine wpAnyH_take (i := 16) (oi := { dst := some 51, op := Op.call { callee := Callee.value (Operand.func 16), args := #[Operand.tmp 49, Operand.tmp 50], argTypes := #[24, 24] }, type := 24, pos := "laws.go:152", after := #[{ on := 14, ground := Ground.data }, { on := 15, ground := Ground.data }, { on := 13, ground := Ground.chain }, { on := 13, ground := Ground.guard }], guard := some (13, true) }) (v := undef) rfl (by kernel_rfl) (by kernel_rfl) (by kernel_rfl) (fun _ _ _ h => h) (Or.inr ⟨by rfl, rfl⟩) hS4 ?_
        try simp only [Act.put, List.setIfInBounds_toArray, List.set_cons_zero, List.set_cons_succ]
        refine wpAnyH_take (i := 18) (oi := { dst := some 53, op := Op.binOp BinOp.neq 24 (Operand.tmp 51) (Operand.tmp 52) 24, type := 4, pos := "laws.go:152", after := #[{ on := 16, ground := Ground.data }, { on := 17, ground := Ground.data }, { on := 13, ground := Ground.guard }], guard := some (13, true) }) (v := undef) rfl (by kernel_rfl) (by kernel_rfl) (by kernel_rfl) (fun _ _ _ h => h) (Or.inr ⟨by rfl, rfl⟩) hS4 ?_
        try simp only [Act.put, List.setIfInBounds_toArray, List.set_cons_zero, List.set_cons_succ]
        refine wpAnyH_take (i := 19) (oi := { dst := some 54, op := Op.pick (Operand.tmp 48) (Operand.tmp 53) (Operand.const (Value.bool false)), type := 4, pos := "laws.go:152", after := #[{ on := 13, ground := Ground.data }, { on := 18, ground := Ground.data }, { on := 10, ground := Ground.guard }], guard := some (10, false) }) (v := .bool false) rfl (by kernel_rfl) (by kernel_rfl) (by kernel_rfl) (fun _ _ _ h => h) (Or.inl ⟨by rfl, ?_⟩) hS4 ?_
        · intro wz hSw; (try dsimp only at hSw); obtain ⟨k0, k1, k2, k3, k4, k5, k6, k7, _⟩ := hSw; go_simp
        try simp only [Act.put, List.setIfInBounds_toArray, List.set_cons_zero, List.set_cons_succ]
        refine wpAnyH_take (i := 20) (oi := { dst := some 55, op := Op.pick (Operand.tmp 45) (Operand.const (Value.bool true)) (Operand.tmp 54), type := 4, pos := "laws.go:152", after := #[{ on := 10, ground := Ground.data }, { on := 19, ground := Ground.data }], guard := none }) (v := .bool false) rfl (by kernel_rfl) (by kernel_rfl) (by kernel_rfl) (fun _ _ _ h => h) (Or.inl ⟨by rfl, ?_⟩) hS4 ?_
        · intro wz hSw; (try dsimp only at hSw); obtain ⟨k0, k1, k2, k3, k4, k5, k6, k7, _⟩ := hSw; go_simp
        try simp only [Act.put, List.setIfInBounds_toArray, List.set_cons_zero, List.set_cons_succ]
        refine wpAnyH_done (by kernel_rfl) ?_ _
        go_wp2_with fail
        go_meet
        obtain ⟨k0, k1, k2, k3, _, _, _, _, k8⟩ := hS4
        exact ⟨rfl, k0, k1, k2, k3, k8⟩
      · rw [ks] at ck
        rw [kq] at cq
        have CK := hide ck
        have CQ := hide cq
        have CM := hide (HU2.out kq)
        clear ck cq ks kq HU1 HU2 p3 p4 p5 p6 HW HB3 HCMP CX CY C1 C2 C3 C4 C5 g3 g4 g5 g6 o3 o4 o5 o6
        have hSS : w4.cell? ⟨w1.heap.size, 0, none⟩ = some (.int .i64 a) ∧ w4.cell? ⟨w1.heap.size, 1, none⟩ = some (.int .i64 b) ∧ w4.cell? ⟨w1.heap.size + 1, 0, none⟩ = some (.int .i64 c) ∧ w4.cell? ⟨w1.heap.size + 1, 1, none⟩ = some (.int .i64 d) ∧ w4.cell? ⟨w2.heap.size, 0, none⟩ = some (.int .i64 s1) ∧ w4.cell? ⟨w2.heap.size, 1, none⟩ = some (.int .i64 s2) ∧ w4.cell? ⟨w3.heap.size, 0, none⟩ = some (.int .i64 q1) ∧ w4.cell? ⟨w3.heap.size, 1, none⟩ = some (.int .i64 q2) ∧ Below w.heap.size w w4 := ⟨x0, x1, y0, y1, z0, z1, t0, t1, hB⟩
        clear x0 x1 y0 y1 z0 z1 t0 t1 hB
        have ea : (a == a) = true := by simp
        have eb : (b == b) = true := by simp
        refine wp_region_held_drew (S := fun w' => w'.cell? ⟨w1.heap.size, 0, none⟩ = some (.int .i64 a) ∧ w'.cell? ⟨w1.heap.size, 1, none⟩ = some (.int .i64 b) ∧ w'.cell? ⟨w1.heap.size + 1, 0, none⟩ = some (.int .i64 c) ∧ w'.cell? ⟨w1.heap.size + 1, 1, none⟩ = some (.int .i64 d) ∧ w'.cell? ⟨w2.heap.size, 0, none⟩ = some (.int .i64 s1) ∧ w'.cell? ⟨w2.heap.size, 1, none⟩ = some (.int .i64 s2) ∧ w'.cell? ⟨w3.heap.size, 0, none⟩ = some (.int .i64 q1) ∧ w'.cell? ⟨w3.heap.size, 1, none⟩ = some (.int .i64 q2) ∧ Below w.heap.size w w') (by kernel_rfl) (kc8_drew hSS) (fun hS0 => ?_)
        refine wpAnyH_take (i := 0) (oi := { dst := some 35, op := Op.load 24 (Operand.tmp 5), type := 24, pos := "laws.go:152", after := #[], guard := none }) (v := .agg #[.int .i64 s1, .int .i64 s2]) rfl (by kernel_rfl) (by kernel_rfl) (by kernel_rfl) (fun _ _ _ h => h) (Or.inl ⟨by rfl, ?_⟩) hS0 ?_
        · intro wz hSw; (try dsimp only at hSw); obtain ⟨k0, k1, k2, k3, k4, k5, k6, k7, _⟩ := hSw; go_simp
        try simp only [Act.put, List.setIfInBounds_toArray, List.set_cons_zero, List.set_cons_succ]
        refine wpAnyH_ready (rs := [1]) (by kernel_rfl) (by simp) ?_
        refine AllReadyH.cons (o := { dst := some 36, op := Op.call { callee := Callee.value (Operand.func 25), args := #[Operand.tmp 35], argTypes := #[24] }, type := 4, pos := "laws.go:152", after := #[{ on := 0, ground := Ground.data }], guard := none }) rfl (fun K hK => ?_) AllReadyH.nil
        go_simp
        refine (CK.out _).mono ?_; rintro e v1 ⟨rfl, hb⟩
        go_wp2_with fail
        refine hK.out _ _ ?_ (fun hS1 => ?_)
        · exact kc8_call hb hS0
        clear hK K hb hS0
        try simp only [Act.put, List.setIfInBounds_toArray, List.set_cons_zero, List.set_cons_succ]
        refine wpAnyH_take (i := 2) (oi := { dst := some 37, op := Op.move (Operand.tmp 36), type := 4, pos := "laws.go:152", after := #[{ on := 1, ground := Ground.data }, { on := 1, ground := Ground.chain }], guard := none }) (v := .bool false) rfl (by kernel_rfl) (by kernel_rfl) (by kernel_rfl) (fun _ _ _ h => h) (Or.inl ⟨by rfl, ?_⟩) hS1 ?_
        · intro wz hSw; (try dsimp only at hSw); obtain ⟨k0, k1, k2, k3, k4, k5, k6, k7, _⟩ := hSw; go_simp
        try simp only [Act.put, List.setIfInBounds_toArray, List.set_cons_zero, List.set_cons_succ]
        refine wpAnyH_take (i := 3) (oi := { dst := some 38, op := Op.load 24 (Operand.tmp 5), type := 24, pos := "laws.go:152", after := #[{ on := 2, ground := Ground.guard }], guard := some (2, true) }) (v := undef) rfl (by kernel_rfl) (by kernel_rfl) (by kernel_rfl) (fun _ _ _ h => h) (Or.inr ⟨by rfl, rfl⟩) hS1 ?_
        try simp only [Act.put, List.setIfInBounds_toArray, List.set_cons_zero, List.set_cons_succ]
        refine wpAnyH_take (i := 4) (oi := { dst := some 39, op := Op.load 24 (Operand.tmp 4), type := 24, pos := "laws.go:152", after := #[{ on := 2, ground := Ground.guard }], guard := some (2, true) }) (v := undef) rfl (by kernel_rfl) (by kernel_rfl) (by kernel_rfl) (fun _ _ _ h => h) (Or.inr ⟨by rfl, rfl⟩) hS1 ?_
        try simp only [Act.put, List.setIfInBounds_toArray, List.set_cons_zero, List.set_cons_succ]
        refine wpAnyH_take (i := 7) (oi := { dst := some 42, op := Op.load 24 (Operand.tmp 3), type := 24, pos := "laws.go:152", after := #[{ on := 2, ground := Ground.guard }], guard := some (2, true) }) (v := undef) rfl (by kernel_rfl) (by kernel_rfl) (by kernel_rfl) (fun _ _ _ h => h) (Or.inr ⟨by rfl, rfl⟩) hS1 ?_
        try simp only [Act.put, List.setIfInBounds_toArray, List.set_cons_zero, List.set_cons_succ]
        refine wpAnyH_take (i := 5) (oi := { dst := some 40, op := Op.call { callee := Callee.value (Operand.func 28), args := #[Operand.tmp 39], argTypes := #[24] }, type := 24, pos := "laws.go:152", after := #[{ on := 4, ground := Ground.data }, { on := 2, ground := Ground.chain }, { on := 2, ground := Ground.guard }], guard := some (2, true) }) (v := undef) rfl (by kernel_rfl) (by kernel_rfl) (by kernel_rfl) (fun _ _ _ h => h) (Or.inr ⟨by rfl, rfl⟩) hS1 ?_
        try simp only [Act.put, List.setIfInBounds_toArray, List.set_cons_zero, List.set_cons_succ]
        refine wpAnyH_take (i := 6) (oi := { dst := some 41, op := Op.call { callee := Callee.value (Operand.func 11), args := #[Operand.tmp 38, Operand.tmp 40], argTypes := #[24, 24] }, type := 24, pos := "laws.go:152", after := #[{ on := 3, ground := Ground.data }, { on := 5, ground := Ground.data }, { on := 5, ground := Ground.chain }, { on := 2, ground := Ground.guard }], guard := some (2, true) }) (v := undef) rfl (by kernel_rfl) (by kernel_rfl) (by kernel_rfl) (fun _ _ _ h => h) (Or.inr ⟨by rfl, rfl⟩) hS1 ?_
        try simp only [Act.put, List.setIfInBounds_toArray, List.set_cons_zero, List.set_cons_succ]
        refine wpAnyH_take (i := 8) (oi := { dst := some 43, op := Op.binOp BinOp.neq 24 (Operand.tmp 41) (Operand.tmp 42) 24, type := 4, pos := "laws.go:152", after := #[{ on := 6, ground := Ground.data }, { on := 7, ground := Ground.data }, { on := 2, ground := Ground.guard }], guard := some (2, true) }) (v := undef) rfl (by kernel_rfl) (by kernel_rfl) (by kernel_rfl) (fun _ _ _ h => h) (Or.inr ⟨by rfl, rfl⟩) hS1 ?_
        try simp only [Act.put, List.setIfInBounds_toArray, List.set_cons_zero, List.set_cons_succ]
        refine wpAnyH_take (i := 9) (oi := { dst := some 44, op := Op.pick (Operand.tmp 37) (Operand.tmp 43) (Operand.const (Value.bool false)), type := 4, pos := "laws.go:152", after := #[{ on := 2, ground := Ground.data }, { on := 8, ground := Ground.data }], guard := none }) (v := .bool false) rfl (by kernel_rfl) (by kernel_rfl) (by kernel_rfl) (fun _ _ _ h => h) (Or.inl ⟨by rfl, ?_⟩) hS1 ?_
        · intro wz hSw; (try dsimp only at hSw); obtain ⟨k0, k1, k2, k3, k4, k5, k6, k7, _⟩ := hSw; go_simp
        try simp only [Act.put, List.setIfInBounds_toArray, List.set_cons_zero, List.set_cons_succ]
        refine wpAnyH_take (i := 10) (oi := { dst := some 45, op := Op.move (Operand.tmp 44), type := 4, pos := "laws.go:152", after := #[{ on := 9, ground := Ground.data }, { on := 6, ground := Ground.chain }], guard := none }) (v := .bool false) rfl (by kernel_rfl) (by kernel_rfl) (by kernel_rfl) (fun _ _ _ h => h) (Or.inl ⟨by rfl, ?_⟩) hS1 ?_
        · intro wz hSw; (try dsimp only at hSw); obtain ⟨k0, k1, k2, k3, k4, k5, k6, k7, _⟩ := hSw; go_simp
        try simp only [Act.put, List.setIfInBounds_toArray, List.set_cons_zero, List.set_cons_succ]
        refine wpAnyH_take (i := 11) (oi := { dst := some 46, op := Op.load 24 (Operand.tmp 6), type := 24, pos := "laws.go:152", after := #[{ on := 10, ground := Ground.guard }], guard := some (10, false) }) (v := .agg #[.int .i64 q1, .int .i64 q2]) rfl (by kernel_rfl) (by kernel_rfl) (by kernel_rfl) (fun _ _ _ h => h) (Or.inl ⟨by rfl, ?_⟩) hS1 ?_
        · intro wz hSw; (try dsimp only at hSw); obtain ⟨k0, k1, k2, k3, k4, k5, k6, k7, _⟩ := hSw; go_simp
        try simp only [Act.put, List.setIfInBounds_toArray, List.set_cons_zero, List.set_cons_succ]
        refine wpAnyH_ready (rs := [12]) (by kernel_rfl) (by simp) ?_
        refine AllReadyH.cons (o := { dst := some 47, op := Op.call { callee := Callee.value (Operand.func 25), args := #[Operand.tmp 46], argTypes := #[24] }, type := 4, pos := "laws.go:152", after := #[{ on := 11, ground := Ground.data }, { on := 10, ground := Ground.chain }, { on := 10, ground := Ground.guard }], guard := some (10, false) }) rfl (fun K hK => ?_) AllReadyH.nil
        go_simp
        refine (CQ.out _).mono ?_; rintro e v2 ⟨rfl, hb⟩
        go_wp2_with fail
        refine hK.out _ _ ?_ (fun hS2 => ?_)
        · exact kc8_call hb hS1
        clear hK K hb hS1
        try simp only [Act.put, List.setIfInBounds_toArray, List.set_cons_zero, List.set_cons_succ]
        refine wpAnyH_take (i := 13) (oi := { dst := some 48, op := Op.move (Operand.tmp 47), type := 4, pos := "laws.go:152", after := #[{ on := 12, ground := Ground.data }, { on := 12, ground := Ground.chain }, { on := 10, ground := Ground.guard }], guard := some (10, false) }) (v := .bool true) rfl (by kernel_rfl) (by kernel_rfl) (by kernel_rfl) (fun _ _ _ h => h) (Or.inl ⟨by rfl, ?_⟩) hS2 ?_
        · intro wz hSw; (try dsimp only at hSw); obtain ⟨k0, k1, k2, k3, k4, k5, k6, k7, _⟩ := hSw; go_simp
        try simp only [Act.put, List.setIfInBounds_toArray, List.set_cons_zero, List.set_cons_succ]
        refine wpAnyH_take (i := 14) (oi := { dst := some 49, op := Op.load 24 (Operand.tmp 6), type := 24, pos := "laws.go:152", after := #[{ on := 13, ground := Ground.guard }], guard := some (13, true) }) (v := .agg #[.int .i64 q1, .int .i64 q2]) rfl (by kernel_rfl) (by kernel_rfl) (by kernel_rfl) (fun _ _ _ h => h) (Or.inl ⟨by rfl, ?_⟩) hS2 ?_
        · intro wz hSw; (try dsimp only at hSw); obtain ⟨k0, k1, k2, k3, k4, k5, k6, k7, _⟩ := hSw; go_simp
        try simp only [Act.put, List.setIfInBounds_toArray, List.set_cons_zero, List.set_cons_succ]
        refine wpAnyH_take (i := 15) (oi := { dst := some 50, op := Op.load 24 (Operand.tmp 4), type := 24, pos := "laws.go:152", after := #[{ on := 13, ground := Ground.guard }], guard := some (13, true) }) (v := .agg #[.int .i64 c, .int .i64 d]) rfl (by kernel_rfl) (by kernel_rfl) (by kernel_rfl) (fun _ _ _ h => h) (Or.inl ⟨by rfl, ?_⟩) hS2 ?_
        · intro wz hSw; (try dsimp only at hSw); obtain ⟨k0, k1, k2, k3, k4, k5, k6, k7, _⟩ := hSw; go_simp
        try simp only [Act.put, List.setIfInBounds_toArray, List.set_cons_zero, List.set_cons_succ]
        refine wpAnyH_take (i := 17) (oi := { dst := some 52, op := Op.load 24 (Operand.tmp 3), type := 24, pos := "laws.go:152", after := #[{ on := 13, ground := Ground.guard }], guard := some (13, true) }) (v := .agg #[.int .i64 a, .int .i64 b]) rfl (by kernel_rfl) (by kernel_rfl) (by kernel_rfl) (fun _ _ _ h => h) (Or.inl ⟨by rfl, ?_⟩) hS2 ?_
        · intro wz hSw; (try dsimp only at hSw); obtain ⟨k0, k1, k2, k3, k4, k5, k6, k7, _⟩ := hSw; go_simp
        try simp only [Act.put, List.setIfInBounds_toArray, List.set_cons_zero, List.set_cons_succ]
        refine wpAnyH_ready (rs := [16]) (by kernel_rfl) (by simp) ?_
        refine AllReadyH.cons (o := { dst := some 51, op := Op.call { callee := Callee.value (Operand.func 16), args := #[Operand.tmp 49, Operand.tmp 50], argTypes := #[24, 24] }, type := 24, pos := "laws.go:152", after := #[{ on := 14, ground := Ground.data }, { on := 15, ground := Ground.data }, { on := 13, ground := Ground.chain }, { on := 13, ground := Ground.guard }], guard := some (13, true) }) rfl (fun K hK => ?_) AllReadyH.nil
        go_simp
        refine (CM.out _).mono ?_; rintro e v3 ⟨rfl, hb⟩
        go_wp2_with fail
        refine hK.out _ _ ?_ (fun hS3 => ?_)
        · exact kc8_call hb hS2
        clear hK K hb hS2
        try simp only [Act.put, List.setIfInBounds_toArray, List.set_cons_zero, List.set_cons_succ]
        refine wpAnyH_take (i := 18) (oi := { dst := some 53, op := Op.binOp BinOp.neq 24 (Operand.tmp 51) (Operand.tmp 52) 24, type := 4, pos := "laws.go:152", after := #[{ on := 16, ground := Ground.data }, { on := 17, ground := Ground.data }, { on := 13, ground := Ground.guard }], guard := some (13, true) }) (v := .bool false) rfl (by kernel_rfl) (by kernel_rfl) (by kernel_rfl) (fun _ _ _ h => h) (Or.inl ⟨by rfl, ?_⟩) hS3 ?_
        · intro wz hSw; (try dsimp only at hSw); obtain ⟨k0, k1, k2, k3, k4, k5, k6, k7, _⟩ := hSw; go_simp
        try simp only [Act.put, List.setIfInBounds_toArray, List.set_cons_zero, List.set_cons_succ]
        refine wpAnyH_take (i := 19) (oi := { dst := some 54, op := Op.pick (Operand.tmp 48) (Operand.tmp 53) (Operand.const (Value.bool false)), type := 4, pos := "laws.go:152", after := #[{ on := 13, ground := Ground.data }, { on := 18, ground := Ground.data }, { on := 10, ground := Ground.guard }], guard := some (10, false) }) (v := .bool false) rfl (by kernel_rfl) (by kernel_rfl) (by kernel_rfl) (fun _ _ _ h => h) (Or.inl ⟨by rfl, ?_⟩) hS3 ?_
        · intro wz hSw; (try dsimp only at hSw); obtain ⟨k0, k1, k2, k3, k4, k5, k6, k7, _⟩ := hSw; go_simp
        try simp only [Act.put, List.setIfInBounds_toArray, List.set_cons_zero, List.set_cons_succ]
        refine wpAnyH_take (i := 20) (oi := { dst := some 55, op := Op.pick (Operand.tmp 45) (Operand.const (Value.bool true)) (Operand.tmp 54), type := 4, pos := "laws.go:152", after := #[{ on := 10, ground := Ground.data }, { on := 19, ground := Ground.data }], guard := none }) (v := .bool false) rfl (by kernel_rfl) (by kernel_rfl) (by kernel_rfl) (fun _ _ _ h => h) (Or.inl ⟨by rfl, ?_⟩) hS3 ?_
        · intro wz hSw; (try dsimp only at hSw); obtain ⟨k0, k1, k2, k3, k4, k5, k6, k7, _⟩ := hSw; go_simp
        try simp only [Act.put, List.setIfInBounds_toArray, List.set_cons_zero, List.set_cons_succ]
        refine wpAnyH_done (by kernel_rfl) ?_ _
        go_wp2_with fail
        go_meet
        obtain ⟨k0, k1, k2, k3, _, _, _, _, k8⟩ := hS3
        exact ⟨rfl, k0, k1, k2, k3, k8⟩
      · rw [ks] at ck
        rw [kq] at cq
        have CK := hide ck
        have CQ := hide cq
        clear ck cq ks kq HU1 HU2 p3 p4 p5 p6 HW HB3 HCMP CX CY C1 C2 C3 C4 C5 g3 g4 g5 g6 o3 o4 o5 o6
        have hSS : w4.cell? ⟨w1.heap.size, 0, none⟩ = some (.int .i64 a) ∧ w4.cell? ⟨w1.heap.size, 1, none⟩ = some (.int .i64 b) ∧ w4.cell? ⟨w1.heap.size + 1, 0, none⟩ = some (.int .i64 c) ∧ w4.cell? ⟨w1.heap.size + 1, 1, none⟩ = some (.int .i64 d) ∧ w4.cell? ⟨w2.heap.size, 0, none⟩ = some (.int .i64 s1) ∧ w4.cell? ⟨w2.heap.size, 1, none⟩ = some (.int .i64 s2) ∧ w4.cell? ⟨w3.heap.size, 0, none⟩ = some (.int .i64 q1) ∧ w4.cell? ⟨w3.heap.size, 1, none⟩ = some (.int .i64 q2) ∧ Below w.heap.size w w4 := ⟨x0, x1, y0, y1, z0, z1, t0, t1, hB⟩
        clear x0 x1 y0 y1 z0 z1 t0 t1 hB
        have ea : (a == a) = true := by simp
        have eb : (b == b) = true := by simp
        refine wp_region_held_drew (S := fun w' => w'.cell? ⟨w1.heap.size, 0, none⟩ = some (.int .i64 a) ∧ w'.cell? ⟨w1.heap.size, 1, none⟩ = some (.int .i64 b) ∧ w'.cell? ⟨w1.heap.size + 1, 0, none⟩ = some (.int .i64 c) ∧ w'.cell? ⟨w1.heap.size + 1, 1, none⟩ = some (.int .i64 d) ∧ w'.cell? ⟨w2.heap.size, 0, none⟩ = some (.int .i64 s1) ∧ w'.cell? ⟨w2.heap.size, 1, none⟩ = some (.int .i64 s2) ∧ w'.cell? ⟨w3.heap.size, 0, none⟩ = some (.int .i64 q1) ∧ w'.cell? ⟨w3.heap.size, 1, none⟩ = some (.int .i64 q2) ∧ Below w.heap.size w w') (by kernel_rfl) (kc8_drew hSS) (fun hS0 => ?_)
        refine wpAnyH_take (i := 0) (oi := { dst := some 35, op := Op.load 24 (Operand.tmp 5), type := 24, pos := "laws.go:152", after := #[], guard := none }) (v := .agg #[.int .i64 s1, .int .i64 s2]) rfl (by kernel_rfl) (by kernel_rfl) (by kernel_rfl) (fun _ _ _ h => h) (Or.inl ⟨by rfl, ?_⟩) hS0 ?_
        · intro wz hSw; (try dsimp only at hSw); obtain ⟨k0, k1, k2, k3, k4, k5, k6, k7, _⟩ := hSw; go_simp
        try simp only [Act.put, List.setIfInBounds_toArray, List.set_cons_zero, List.set_cons_succ]
        refine wpAnyH_ready (rs := [1]) (by kernel_rfl) (by simp) ?_
        refine AllReadyH.cons (o := { dst := some 36, op := Op.call { callee := Callee.value (Operand.func 25), args := #[Operand.tmp 35], argTypes := #[24] }, type := 4, pos := "laws.go:152", after := #[{ on := 0, ground := Ground.data }], guard := none }) rfl (fun K hK => ?_) AllReadyH.nil
        go_simp
        refine (CK.out _).mono ?_; rintro e v1 ⟨rfl, hb⟩
        go_wp2_with fail
        refine hK.out _ _ ?_ (fun hS1 => ?_)
        · exact kc8_call hb hS0
        clear hK K hb hS0
        try simp only [Act.put, List.setIfInBounds_toArray, List.set_cons_zero, List.set_cons_succ]
        refine wpAnyH_take (i := 2) (oi := { dst := some 37, op := Op.move (Operand.tmp 36), type := 4, pos := "laws.go:152", after := #[{ on := 1, ground := Ground.data }, { on := 1, ground := Ground.chain }], guard := none }) (v := .bool false) rfl (by kernel_rfl) (by kernel_rfl) (by kernel_rfl) (fun _ _ _ h => h) (Or.inl ⟨by rfl, ?_⟩) hS1 ?_
        · intro wz hSw; (try dsimp only at hSw); obtain ⟨k0, k1, k2, k3, k4, k5, k6, k7, _⟩ := hSw; go_simp
        try simp only [Act.put, List.setIfInBounds_toArray, List.set_cons_zero, List.set_cons_succ]
        refine wpAnyH_take (i := 3) (oi := { dst := some 38, op := Op.load 24 (Operand.tmp 5), type := 24, pos := "laws.go:152", after := #[{ on := 2, ground := Ground.guard }], guard := some (2, true) }) (v := undef) rfl (by kernel_rfl) (by kernel_rfl) (by kernel_rfl) (fun _ _ _ h => h) (Or.inr ⟨by rfl, rfl⟩) hS1 ?_
        try simp only [Act.put, List.setIfInBounds_toArray, List.set_cons_zero, List.set_cons_succ]
        refine wpAnyH_take (i := 4) (oi := { dst := some 39, op := Op.load 24 (Operand.tmp 4), type := 24, pos := "laws.go:152", after := #[{ on := 2, ground := Ground.guard }], guard := some (2, true) }) (v := undef) rfl (by kernel_rfl) (by kernel_rfl) (by kernel_rfl) (fun _ _ _ h => h) (Or.inr ⟨by rfl, rfl⟩) hS1 ?_
        try simp only [Act.put, List.setIfInBounds_toArray, List.set_cons_zero, List.set_cons_succ]
        refine wpAnyH_take (i := 7) (oi := { dst := some 42, op := Op.load 24 (Operand.tmp 3), type := 24, pos := "laws.go:152", after := #[{ on := 2, ground := Ground.guard }], guard := some (2, true) }) (v := undef) rfl (by kernel_rfl) (by kernel_rfl) (by kernel_rfl) (fun _ _ _ h => h) (Or.inr ⟨by rfl, rfl⟩) hS1 ?_
        try simp only [Act.put, List.setIfInBounds_toArray, List.set_cons_zero, List.set_cons_succ]
        refine wpAnyH_take (i := 5) (oi := { dst := some 40, op := Op.call { callee := Callee.value (Operand.func 28), args := #[Operand.tmp 39], argTypes := #[24] }, type := 24, pos := "laws.go:152", after := #[{ on := 4, ground := Ground.data }, { on := 2, ground := Ground.chain }, { on := 2, ground := Ground.guard }], guard := some (2, true) }) (v := undef) rfl (by kernel_rfl) (by kernel_rfl) (by kernel_rfl) (fun _ _ _ h => h) (Or.inr ⟨by rfl, rfl⟩) hS1 ?_
        try simp only [Act.put, List.setIfInBounds_toArray, List.set_cons_zero, List.set_cons_succ]
        refine wpAnyH_take (i := 6) (oi := { dst := some 41, op := Op.call { callee := Callee.value (Operand.func 11), args := #[Operand.tmp 38, Operand.tmp 40], argTypes := #[24, 24] }, type := 24, pos := "laws.go:152", after := #[{ on := 3, ground := Ground.data }, { on := 5, ground := Ground.data }, { on := 5, ground := Ground.chain }, { on := 2, ground := Ground.guard }], guard := some (2, true) }) (v := undef) rfl (by kernel_rfl) (by kernel_rfl) (by kernel_rfl) (fun _ _ _ h => h) (Or.inr ⟨by rfl, rfl⟩) hS1 ?_
        try simp only [Act.put, List.setIfInBounds_toArray, List.set_cons_zero, List.set_cons_succ]
        refine wpAnyH_take (i := 8) (oi := { dst := some 43, op := Op.binOp BinOp.neq 24 (Operand.tmp 41) (Operand.tmp 42) 24, type := 4, pos := "laws.go:152", after := #[{ on := 6, ground := Ground.data }, { on := 7, ground := Ground.data }, { on := 2, ground := Ground.guard }], guard := some (2, true) }) (v := undef) rfl (by kernel_rfl) (by kernel_rfl) (by kernel_rfl) (fun _ _ _ h => h) (Or.inr ⟨by rfl, rfl⟩) hS1 ?_
        try simp only [Act.put, List.setIfInBounds_toArray, List.set_cons_zero, List.set_cons_succ]
        refine wpAnyH_take (i := 9) (oi := { dst := some 44, op := Op.pick (Operand.tmp 37) (Operand.tmp 43) (Operand.const (Value.bool false)), type := 4, pos := "laws.go:152", after := #[{ on := 2, ground := Ground.data }, { on := 8, ground := Ground.data }], guard := none }) (v := .bool false) rfl (by kernel_rfl) (by kernel_rfl) (by kernel_rfl) (fun _ _ _ h => h) (Or.inl ⟨by rfl, ?_⟩) hS1 ?_
        · intro wz hSw; (try dsimp only at hSw); obtain ⟨k0, k1, k2, k3, k4, k5, k6, k7, _⟩ := hSw; go_simp
        try simp only [Act.put, List.setIfInBounds_toArray, List.set_cons_zero, List.set_cons_succ]
        refine wpAnyH_take (i := 10) (oi := { dst := some 45, op := Op.move (Operand.tmp 44), type := 4, pos := "laws.go:152", after := #[{ on := 9, ground := Ground.data }, { on := 6, ground := Ground.chain }], guard := none }) (v := .bool false) rfl (by kernel_rfl) (by kernel_rfl) (by kernel_rfl) (fun _ _ _ h => h) (Or.inl ⟨by rfl, ?_⟩) hS1 ?_
        · intro wz hSw; (try dsimp only at hSw); obtain ⟨k0, k1, k2, k3, k4, k5, k6, k7, _⟩ := hSw; go_simp
        try simp only [Act.put, List.setIfInBounds_toArray, List.set_cons_zero, List.set_cons_succ]
        refine wpAnyH_take (i := 11) (oi := { dst := some 46, op := Op.load 24 (Operand.tmp 6), type := 24, pos := "laws.go:152", after := #[{ on := 10, ground := Ground.guard }], guard := some (10, false) }) (v := .agg #[.int .i64 q1, .int .i64 q2]) rfl (by kernel_rfl) (by kernel_rfl) (by kernel_rfl) (fun _ _ _ h => h) (Or.inl ⟨by rfl, ?_⟩) hS1 ?_
        · intro wz hSw; (try dsimp only at hSw); obtain ⟨k0, k1, k2, k3, k4, k5, k6, k7, _⟩ := hSw; go_simp
        try simp only [Act.put, List.setIfInBounds_toArray, List.set_cons_zero, List.set_cons_succ]
        refine wpAnyH_ready (rs := [12]) (by kernel_rfl) (by simp) ?_
        refine AllReadyH.cons (o := { dst := some 47, op := Op.call { callee := Callee.value (Operand.func 25), args := #[Operand.tmp 46], argTypes := #[24] }, type := 4, pos := "laws.go:152", after := #[{ on := 11, ground := Ground.data }, { on := 10, ground := Ground.chain }, { on := 10, ground := Ground.guard }], guard := some (10, false) }) rfl (fun K hK => ?_) AllReadyH.nil
        go_simp
        refine (CQ.out _).mono ?_; rintro e v2 ⟨rfl, hb⟩
        go_wp2_with fail
        refine hK.out _ _ ?_ (fun hS2 => ?_)
        · exact kc8_call hb hS1
        clear hK K hb hS1
        try simp only [Act.put, List.setIfInBounds_toArray, List.set_cons_zero, List.set_cons_succ]
        refine wpAnyH_take (i := 13) (oi := { dst := some 48, op := Op.move (Operand.tmp 47), type := 4, pos := "laws.go:152", after := #[{ on := 12, ground := Ground.data }, { on := 12, ground := Ground.chain }, { on := 10, ground := Ground.guard }], guard := some (10, false) }) (v := .bool false) rfl (by kernel_rfl) (by kernel_rfl) (by kernel_rfl) (fun _ _ _ h => h) (Or.inl ⟨by rfl, ?_⟩) hS2 ?_
        · intro wz hSw; (try dsimp only at hSw); obtain ⟨k0, k1, k2, k3, k4, k5, k6, k7, _⟩ := hSw; go_simp
        try simp only [Act.put, List.setIfInBounds_toArray, List.set_cons_zero, List.set_cons_succ]
        refine wpAnyH_take (i := 14) (oi := { dst := some 49, op := Op.load 24 (Operand.tmp 6), type := 24, pos := "laws.go:152", after := #[{ on := 13, ground := Ground.guard }], guard := some (13, true) }) (v := undef) rfl (by kernel_rfl) (by kernel_rfl) (by kernel_rfl) (fun _ _ _ h => h) (Or.inr ⟨by rfl, rfl⟩) hS2 ?_
        try simp only [Act.put, List.setIfInBounds_toArray, List.set_cons_zero, List.set_cons_succ]
        refine wpAnyH_take (i := 15) (oi := { dst := some 50, op := Op.load 24 (Operand.tmp 4), type := 24, pos := "laws.go:152", after := #[{ on := 13, ground := Ground.guard }], guard := some (13, true) }) (v := undef) rfl (by kernel_rfl) (by kernel_rfl) (by kernel_rfl) (fun _ _ _ h => h) (Or.inr ⟨by rfl, rfl⟩) hS2 ?_
        try simp only [Act.put, List.setIfInBounds_toArray, List.set_cons_zero, List.set_cons_succ]
        refine wpAnyH_take (i := 17) (oi := { dst := some 52, op := Op.load 24 (Operand.tmp 3), type := 24, pos := "laws.go:152", after := #[{ on := 13, ground := Ground.guard }], guard := some (13, true) }) (v := undef) rfl (by kernel_rfl) (by kernel_rfl) (by kernel_rfl) (fun _ _ _ h => h) (Or.inr ⟨by rfl, rfl⟩) hS2 ?_
        try simp only [Act.put, List.setIfInBounds_toArray, List.set_cons_zero, List.set_cons_succ]
        refine wpAnyH_take (i := 16) (oi := { dst := some 51, op := Op.call { callee := Callee.value (Operand.func 16), args := #[Operand.tmp 49, Operand.tmp 50], argTypes := #[24, 24] }, type := 24, pos := "laws.go:152", after := #[{ on := 14, ground := Ground.data }, { on := 15, ground := Ground.data }, { on := 13, ground := Ground.chain }, { on := 13, ground := Ground.guard }], guard := some (13, true) }) (v := undef) rfl (by kernel_rfl) (by kernel_rfl) (by kernel_rfl) (fun _ _ _ h => h) (Or.inr ⟨by rfl, rfl⟩) hS2 ?_
        try simp only [Act.put, List.setIfInBounds_toArray, List.set_cons_zero, List.set_cons_succ]
        refine wpAnyH_take (i := 18) (oi := { dst := some 53, op := Op.binOp BinOp.neq 24 (Operand.tmp 51) (Operand.tmp 52) 24, type := 4, pos := "laws.go:152", after := #[{ on := 16, ground := Ground.data }, { on := 17, ground := Ground.data }, { on := 13, ground := Ground.guard }], guard := some (13, true) }) (v := undef) rfl (by kernel_rfl) (by kernel_rfl) (by kernel_rfl) (fun _ _ _ h => h) (Or.inr ⟨by rfl, rfl⟩) hS2 ?_
        try simp only [Act.put, List.setIfInBounds_toArray, List.set_cons_zero, List.set_cons_succ]
        refine wpAnyH_take (i := 19) (oi := { dst := some 54, op := Op.pick (Operand.tmp 48) (Operand.tmp 53) (Operand.const (Value.bool false)), type := 4, pos := "laws.go:152", after := #[{ on := 13, ground := Ground.data }, { on := 18, ground := Ground.data }, { on := 10, ground := Ground.guard }], guard := some (10, false) }) (v := .bool false) rfl (by kernel_rfl) (by kernel_rfl) (by kernel_rfl) (fun _ _ _ h => h) (Or.inl ⟨by rfl, ?_⟩) hS2 ?_
        · intro wz hSw; (try dsimp only at hSw); obtain ⟨k0, k1, k2, k3, k4, k5, k6, k7, _⟩ := hSw; go_simp
        try simp only [Act.put, List.setIfInBounds_toArray, List.set_cons_zero, List.set_cons_succ]
        refine wpAnyH_take (i := 20) (oi := { dst := some 55, op := Op.pick (Operand.tmp 45) (Operand.const (Value.bool true)) (Operand.tmp 54), type := 4, pos := "laws.go:152", after := #[{ on := 10, ground := Ground.data }, { on := 19, ground := Ground.data }], guard := none }) (v := .bool false) rfl (by kernel_rfl) (by kernel_rfl) (by kernel_rfl) (fun _ _ _ h => h) (Or.inl ⟨by rfl, ?_⟩) hS2 ?_
        · intro wz hSw; (try dsimp only at hSw); obtain ⟨k0, k1, k2, k3, k4, k5, k6, k7, _⟩ := hSw; go_simp
        try simp only [Act.put, List.setIfInBounds_toArray, List.set_cons_zero, List.set_cons_succ]
        refine wpAnyH_done (by kernel_rfl) ?_ _
        go_wp2_with fail
        go_meet
        obtain ⟨k0, k1, k2, k3, _, _, _, _, k8⟩ := hS2
        exact ⟨rfl, k0, k1, k2, k3, k8⟩
    case rest =>
      clear x0 x1 y0 y1 z0 z1 t0 t1 hB o3 o4 o5 o6 ck cq
      obtain ⟨rfl, x0, x1, y0, y1, hB⟩ := hcut
      have HB := hide hB
      clear hB
      go_wp2_with fail
      refine (CX.out _).mono ?_; rintro e w6 ⟨rfl, hb⟩
      have r0 := kc_call x0 hb
      have r1 := kc_call x1 hb
      have r2 := kc_call y0 hb
      have r3 := kc_call y1 hb
      have HB6 := hide (kb_call HB.out (Nat.le_refl _) hb)
      clear hb x0 x1 y0 y1
      rcases HCMP.out with ⟨h1, h2⟩ | ⟨h1, h2, h3⟩
      · have d1 : (X == 2) = true := by simpa using h1
        have d2 : (Y == 2) = true := by simpa using h2
        clear h1 h2
        go_wp2_with fail
        refine (CY.out _).mono ?_; rintro e w7 ⟨rfl, hb⟩
        have HB7 := hide (kb_call HB6.out (Nat.le_refl _) hb); clear hb
        go_wp2
        go_returns
        exact ⟨rfl, HB7.out⟩
      · subst h1
        have d1 : (-Y == 2) = false := by simp; omega
        have hY : (-1 ≤ Y ∧ Y ≤ 1) := by omega
        have d3 : (-Y == -Y) = true := by simp
        go_wp2_with fail
        refine (CY.out _).mono ?_; rintro e w7 ⟨rfl, hb⟩
        have HB7 := hide (kb_call HB6.out (Nat.le_refl _) hb)
        have v0 := kc_call r0 hb
        have v1 := kc_call r1 hb
        have v2 := kc_call r2 hb
        have v3 := kc_call r3 hb
        clear hb r0 r1 r2 r3
        by_cases hx : -Y = 0
        · obtain ⟨rfl, rfl⟩ := h3.1 hx
          have d4 : (-Y == 0) = true := by simpa using hx
          clear h3 hx h2
          go_wp2
          go_returns
          exact ⟨rfl, HB7.out⟩
        · have d4 : (-Y == 0) = false := by simpa using hx
          have h4 : ¬ (a = c ∧ b = d) := fun e => hx (h3.2 e)
          clear h3 hx h2
          by_cases hac : a = c
          · subst hac
            have d5 : (b == d) = false := by simpa using h4
            clear h4
            go_wp2
            go_returns
            exact ⟨rfl, HB7.out⟩
          · have d5 : (a == c) = false := by simpa using hac
            clear h4 hac
            go_wp2
            go_returns
            exact ⟨rfl, HB7.out⟩
  · go_enter Try.func8, Try.ntmps8
    go_wp2_with fail
    refine (lawBig_yes A n cap _ (by omega) (by omega)).mono ?_; rintro e w0 ⟨rfl, rfl⟩
    go_wp2
    go_returns
    exact ⟨rfl, Below.refl _ _⟩
end Go.Proofs.Ytkoopheikdbliaa
