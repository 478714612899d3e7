/- The walk of FnRing. -/
import Derived.Test.YtjopanbccfebnaaDrawMul
import Derived.Test.YtjopanbccfebnaaMixW
import Derived.Test.YtjopanbccfebnaaRingL
import Derived.Test.YtjopanbccfebnaaRowLib
import Derived.Deep.DeepCutAuto
namespace Go.Proofs.Ytjopanbccfebnaa
open Go.RowKit
set_option linter.unusedSimpArgs false
set_option linter.unusedVariables false
set_option maxRecDepth 100000 in
set_option maxHeartbeats 16000000 in
theorem walkFnRing (A : Option Addr) (n cap : Nat) (xs : List Int) (w : World) (hs : SlBArg w A n cap xs) :
    Calls Try.prog 9 #[.slice A n cap] w fun e w' => e = .returned (.bool true) ∧ Below w.heap.size w w' := by
  obtain ⟨hx, hm, hs⟩ := hs
  clear hx
  unfold maxLen at hm
  by_cases hn : n ≤ 1048576
  · have HS := hide hs; clear hs
    go_enter Try.func9, Try.ntmps9
    go_wp2_with fail
    refine (lawBig_no A n cap _ hn).mono ?_; rintro e w0 ⟨rfl, rfl⟩
    go_wp2_with fail
    refine (drawMul A n cap _ HS.out hn).mono ?_; rintro e w1 ⟨⟨r, c, A3, m3, p3, us, r', c', A4, m4, p4, ys, rfl, hm3, hm4, ho3, ho4⟩, hB⟩
    obtain ⟨rfl, _⟩ := Own.reads ho3
    obtain ⟨rfl, _⟩ := Own.reads ho4

    have HBx : Hid (Below w.heap.size w ((w1.alloc (.cells #[.int .i64 r, .int .i64 c, .slice A3 us.length p3] 26)).alloc (.cells #[.int .i64 r', .int .i64 c', .slice A4 ys.length p4] 26))) := (hB.alloc hB.size _).alloc (by have := hB.size; simp; omega) _
    have b1_ := hide ((Box3.new (x := .int .i64 r) (y := .int .i64 c) (z := .slice A3 us.length p3) w1 w1.heap.size 26 rfl).alloc (.cells #[.int .i64 r', .int .i64 c', .slice A4 ys.length p4] 26))
    have b2_ := hide (Box3.new (x := .int .i64 r') (y := .int .i64 c') (z := .slice A4 ys.length p4) (w1.alloc (.cells #[.int .i64 r, .int .i64 c, .slice A3 us.length p3] 26)) (w1.heap.size + 1) 26 (by simp))
    have u3_ := hide ((ho3.alloc (.cells #[.int .i64 r, .int .i64 c, .slice A3 us.length p3] 26)).alloc (.cells #[.int .i64 r', .int .i64 c', .slice A4 ys.length p4] 26))
    have u4_ := hide ((ho4.alloc (.cells #[.int .i64 r, .int .i64 c, .slice A3 us.length p3] 26)).alloc (.cells #[.int .i64 r', .int .i64 c', .slice A4 ys.length p4] 26))
    clear ho3 ho4 hB
    go_upto_region 4 with fail
    obtain ⟨W, hW_⟩ : ∃ W_, (w1.alloc (.cells #[.int .i64 r, .int .i64 c, .slice A3 us.length p3] 26)).alloc (.cells #[.int .i64 r', .int .i64 c', .slice A4 ys.length p4] 26) = W_ := ⟨_, rfl⟩
    rw [hW_]
    have t_ := b1_.out
    rw [hW_] at t_
    have b5_ := hide t_
    clear b1_ t_
    have t_ := b2_.out
    rw [hW_] at t_
    have b6_ := hide t_
    clear b2_ t_
    have t_ := u3_.out
    rw [hW_] at t_
    have u7_ := hide t_
    clear u3_ t_
    have t_ := u4_.out
    rw [hW_] at t_
    have u8_ := hide t_
    clear u4_ t_
    have t_ := HBx.out
    rw [hW_] at t_
    have HB9_ := hide t_
    clear HBx t_
    have z_w : w1.heap.size + 1 < W.heap.size := by rw [← hW_]; simp
    clear hW_
    have HSW := hide (SlB.mono (SlB.below HS.out HB9_.out) HB9_.out.size)
    go_cut [5] (fun s5 wx => ∃ (gc : Nat) (mr mc : Int) (zs : List Int) (A5 : Option Addr) (p5 : Nat), s5 = .pointer (some ⟨gc, 0, none⟩) ∧ zs.length ≤ 576 ∧ W.heap.size ≤ gc ∧ Box3 wx gc (.int .i64 mr) (.int .i64 mc) (.slice A5 zs.length p5) ∧ Own wx W.heap.size (.slice A5 zs.length p5) zs ∧ Below W.heap.size W wx)
    case first =>
      obtain ⟨⟨c0_0, c0_1, c0_2⟩, _⟩ := b6_.out
      rcases (show c' ≤ 0 ∨ (0 < c' ∧ c' ≤ 6) ∨ 6 < c' by omega) with hc | ⟨hc0, hc6⟩ | hc
      · have lm := lawMix A n cap 0 W HSW.out hn (by omega)
        rw [show ((0 : Nat) : Int) = 0 from rfl] at lm
        go_wp2_with fail
        refine (lm).mono ?_; rintro e w2 ⟨mr, mc, zs, s5, rfl, hmx, ho, hb⟩
        obtain ⟨A5, p5, rfl, _⟩ := Own.sl ho
        have hzs := mixP_len hmx
        have hzz := hb.size
        have HO := hide ho
        have HH := hide (Below.alloc hb hb.size (.cells #[.int .i64 mr, .int .i64 mc, .slice A5 zs.length p5] 26))
        clear ho hb hmx c0_0 c0_1 c0_2
        go_wp2_with fail
        go_meet
        exact ⟨w2.heap.size, mr, mc, zs, A5, p5, rfl, hzs, hzz, Box3.new _ _ _ rfl, Own.alloc HO.out _, HH.out⟩
      · obtain ⟨k, rfl⟩ := Int.eq_ofNat_of_zero_le (show 0 ≤ c' by omega)
        have lm := lawMix A n cap k W HSW.out hn (by omega)
        go_wp2_with fail
        refine (lm).mono ?_; rintro e w2 ⟨mr, mc, zs, s5, rfl, hmx, ho, hb⟩
        obtain ⟨A5, p5, rfl, _⟩ := Own.sl ho
        have hzs := mixP_len hmx
        have hzz := hb.size
        have HO := hide ho
        have HH := hide (Below.alloc hb hb.size (.cells #[.int .i64 mr, .int .i64 mc, .slice A5 zs.length p5] 26))
        clear ho hb hmx c0_0 c0_1 c0_2
        go_wp2_with fail
        go_meet
        exact ⟨w2.heap.size, mr, mc, zs, A5, p5, rfl, hzs, hzz, Box3.new _ _ _ rfl, Own.alloc HO.out _, HH.out⟩
      · have lm := lawMix A n cap 6 W HSW.out hn (by omega)
        rw [show ((6 : Nat) : Int) = 6 from rfl] at lm
        go_wp2_with fail
        refine (lm).mono ?_; rintro e w2 ⟨mr, mc, zs, s5, rfl, hmx, ho, hb⟩
        obtain ⟨A5, p5, rfl, _⟩ := Own.sl ho
        have hzs := mixP_len hmx
        have hzz := hb.size
        have HO := hide ho
        have HH := hide (Below.alloc hb hb.size (.cells #[.int .i64 mr, .int .i64 mc, .slice A5 zs.length p5] 26))
        clear ho hb hmx c0_0 c0_1 c0_2
        go_wp2_with fail
        go_meet
        exact ⟨w2.heap.size, mr, mc, zs, A5, p5, rfl, hzs, hzz, Box3.new _ _ _ rfl, Own.alloc HO.out _, HH.out⟩
    case rest =>
      obtain ⟨gc, mr, mc, zs, A5, p5, rfl, hzs, hgc, kc, hoc, hB⟩ := hcut
      have b10_ := hide (b5_.out.call hB)
      clear b5_
      have b11_ := hide (b6_.out.call hB)
      clear b6_
      have u12_ := hide (Own.below u7_.out hB)
      clear u7_
      have u13_ := hide (Own.below u8_.out hB)
      clear u8_
      have HB14_ := hide (kb_call HB9_.out (Nat.le_refl _) hB)
      clear HB9_
      have z_1 := hB.size
      (try simp only [World.size_alloc, World.size_setCell, World.size_drew, size_drewN] at z_1)
      have b15_ := hide (kc)
      have u16_ := hide (hoc)
      clear hB kc hoc HSW HS
      rcases mul_cases r c us r' c' ys with hno | ⟨R, C, C', rfl, rfl, rfl, rfl, h1, h2, h3⟩
      · have cm := fun A p B q w (hA : Sl w A us.length p us) (hB : Sl w B ys.length q ys) => implMul r c r' c' A B p q us ys w hA (by omega) hB (by omega)
        rw [hno] at cm
        obtain ⟨E, hE⟩ : ∃ E : List Int, E = [] := ⟨_, rfl⟩
        have CM : Hid (∀ A p B q w, Sl w A us.length p us → Sl w B ys.length q ys → Calls Try.prog 24 #[mv r c (.slice A us.length p), mv r' c' (.slice B ys.length q)] w (RetMat w 0 0 E false)) := by rw [hE]; exact cm
        have sm := fun A p w (hA : SlI w A E) => implSameMatrix 0 0 0 0 A none p 0 E [] w hA SlI.nil (by rw [hE]; simp) (by simp)
        rw [show sameB 0 0 E 0 0 [] = true by rw [hE]; exact same_mk] at sm
        have SM := hide sm
        clear sm cm hno hE
        obtain ⟨⟨c0_0, c0_1, c0_2⟩, _⟩ := b10_.out
        obtain ⟨⟨c1_0, c1_1, c1_2⟩, _⟩ := b11_.out
        go_wp2_with fail
        refine (CM.out _ _ _ _ _ (Own.sl2 u12_.out) (Own.sl2 u13_.out)).mono ?_; rintro e w6 ⟨s, rfl, ho, hb⟩
        obtain ⟨A6, p6, rfl, _⟩ := Own.sl ho
        have b17_ := hide (b10_.out.call hb |>.alloc (.cells #[.int .i64 0, .int .i64 0, .slice A6 E.length p6] 26))
        clear b10_
        have b18_ := hide (b11_.out.call hb |>.alloc (.cells #[.int .i64 0, .int .i64 0, .slice A6 E.length p6] 26))
        clear b11_
        have u19_ := hide (Own.below u12_.out hb |>.alloc (.cells #[.int .i64 0, .int .i64 0, .slice A6 E.length p6] 26))
        clear u12_
        have u20_ := hide (Own.below u13_.out hb |>.alloc (.cells #[.int .i64 0, .int .i64 0, .slice A6 E.length p6] 26))
        clear u13_
        have b21_ := hide (b15_.out.call hb |>.alloc (.cells #[.int .i64 0, .int .i64 0, .slice A6 E.length p6] 26))
        clear b15_
        have u22_ := hide (Own.below u16_.out hb |>.alloc (.cells #[.int .i64 0, .int .i64 0, .slice A6 E.length p6] 26))
        clear u16_
        have HB23_ := hide ((kb_call HB14_.out (Nat.le_refl _) hb).alloc (by have := HB14_.out.size; have := hb.size; omega) (.cells #[.int .i64 0, .int .i64 0, .slice A6 E.length p6] 26))
        clear HB14_
        have z_2 := hb.size
        (try simp only [World.size_alloc, World.size_setCell, World.size_drew, size_drewN] at z_2)
        have b24_ := hide (Box3.new (x := .int .i64 0) (y := .int .i64 0) (z := .slice A6 E.length p6) w6 w6.heap.size 26 rfl)
        have u25_ := hide (ho |>.alloc (.cells #[.int .i64 0, .int .i64 0, .slice A6 E.length p6] 26))
        clear hb ho c0_0 c0_1 c0_2 c1_0 c1_1 c1_2
        obtain ⟨⟨c0_0, c0_1, c0_2⟩, _⟩ := b24_.out
        go_wp2_with fail
        refine (SM.out _ _ _ (Own.reads u25_.out).2).mono ?_; rintro e w7 ⟨rfl, hb⟩
        have b26_ := hide (b17_.out.call hb)
        clear b17_
        have b27_ := hide (b18_.out.call hb)
        clear b18_
        have u28_ := hide (Own.below u19_.out hb)
        clear u19_
        have u29_ := hide (Own.below u20_.out hb)
        clear u20_
        have b30_ := hide (b21_.out.call hb)
        clear b21_
        have u31_ := hide (Own.below u22_.out hb)
        clear u22_
        have b32_ := hide (b24_.out.call hb)
        clear b24_
        have u33_ := hide (Own.below u25_.out hb)
        clear u25_
        have HB34_ := hide (kb_call HB23_.out (Nat.le_refl _) hb)
        clear HB23_
        have z_3 := hb.size
        (try simp only [World.size_alloc, World.size_setCell, World.size_drew, size_drewN] at z_3)
        clear hb c0_0 c0_1 c0_2
        go_wp2
        go_returns
        exact ⟨rfl, HB34_.out⟩
      · obtain ⟨X, hX⟩ : ∃ X, mulL R C C' us ys = X := ⟨_, rfl⟩
        rw [hX] at h3
        have e1 := mul_res h1 h2 (by rw [hX]; exact h3)
        rw [hX] at e1
        have hXl := (isMat_t h3).2.2.2.2.2.2
        obtain ⟨Y, hY⟩ : ∃ Y, mulRes R C' X mr mc zs = Y := ⟨_, rfl⟩
        obtain ⟨Z, hZ⟩ : ∃ Z, mulRes C C' ys mr mc zs = Z := ⟨_, rfl⟩
        obtain ⟨V, hV⟩ : ∃ V, mulRes R C us Z.R Z.C Z.L = V := ⟨_, rfl⟩
        obtain ⟨S, hS⟩ : ∃ S, addRes C C' ys C C' ys = S := ⟨_, rfl⟩
        obtain ⟨T, hT⟩ : ∃ T, mulRes R C us S.R S.C S.L = T := ⟨_, rfl⟩
        obtain ⟨P, hP⟩ : ∃ P, addRes R C' X R C' X = P := ⟨_, rfl⟩
        obtain ⟨Q, hQ⟩ : ∃ Q, scRes R C' X 2 = Q := ⟨_, rfl⟩
        have as_ := ring_assoc h1 h2 hX h3 hY hZ hV
        have ds_ := ring_dist h1 h2 hX h3 hS hT hP hQ
        have lY : Y.L.length ≤ 1048576 := by rw [← hY]; exact MultiplyMatrices_len
        have lZ : Z.L.length ≤ 1048576 := by rw [← hZ]; exact MultiplyMatrices_len
        have lV : V.L.length ≤ 1048576 := by rw [← hV]; exact MultiplyMatrices_len
        have lS : S.L.length ≤ 1048576 := by rw [← hS]; exact AddMatrices_len
        have lT : T.L.length ≤ 1048576 := by rw [← hT]; exact MultiplyMatrices_len
        have lP : P.L.length ≤ 1048576 := by rw [← hP]; exact AddMatrices_len
        have lQ : Q.L.length ≤ 1048576 := by rw [← hQ]; exact ScaleMatrix_len
        have c1 := fun A p B q w (hA : Sl w A us.length p us) (hB : Sl w B ys.length q ys) => implMul R C C C' A B p q us ys w hA (by omega) hB (by omega)
        have c2 := fun A p B q w (hA : Sl w A X.length p X) (hB : Sl w B zs.length q zs) => implMul R C' mr mc A B p q X zs w hA (by omega) hB (by omega)
        have c3 := fun A p B q w (hA : Sl w A ys.length p ys) (hB : Sl w B zs.length q zs) => implMul C C' mr mc A B p q ys zs w hA (by omega) hB (by omega)
        have c4 := fun A p B q w (hA : Sl w A us.length p us) (hB : Sl w B Z.L.length q Z.L) => implMul R C Z.R Z.C A B p q us Z.L w hA (by omega) hB lZ
        have c5 := fun A p B q w (hA : Sl w A ys.length p ys) (hB : Sl w B ys.length q ys) => implAdd C C' C C' A B p q ys ys w hA (by omega) hB (by omega)
        have c6 := fun A p B q w (hA : Sl w A us.length p us) (hB : Sl w B S.L.length q S.L) => implMul R C S.R S.C A B p q us S.L w hA (by omega) hB lS
        have c7 := fun A p B q w (hA : Sl w A X.length p X) (hB : Sl w B X.length q X) => implAdd R C' R C' A B p q X X w hA (by omega) hB (by omega)
        have c8 := fun A p w (hA : Sl w A X.length p X) => implScale R C' 2 A p X w hA (by omega)
        rw [e1] at c1
        rw [hY] at c2
        rw [hZ] at c3
        rw [hV] at c4
        rw [hS] at c5
        rw [hT] at c6
        rw [hP] at c7
        rw [hQ] at c8
        have s1 := fun A B p q w (hA : SlI w A Y.L) (hB : SlI w B V.L) => implSameMatrix Y.R Y.C V.R V.C A B p q Y.L V.L w hA hB lY lV
        have s2 := fun A B p q w (hA : SlI w A T.L) (hB : SlI w B P.L) => specSameMatrix T.R T.C P.R P.C A B p q T.L P.L w hA hB lT lP
        have s3 := fun A B p q w (hA : SlI w A P.L) (hB : SlI w B Q.L) => implSameMatrix P.R P.C Q.R Q.C A B p q P.L Q.L w hA hB lP lQ
        clear hX hY hZ hV hS hT hP hQ h1 h2 h3 e1 lY lZ lV lS lT lP lQ
        obtain ⟨RY, CY, LY, kY⟩ := Y
        obtain ⟨RZ, CZ, LZ, kZ⟩ := Z
        obtain ⟨RV, CV, LV, kV⟩ := V
        obtain ⟨RS, CS, LS, kS⟩ := S
        obtain ⟨RT, CT, LT, kT⟩ := T
        obtain ⟨RP, CP, LP, kP⟩ := P
        obtain ⟨RQ, CQ, LQ, kQ⟩ := Q
        simp only at as_ ds_ c4 c6 s1 s2 s3
        have C1 : Hid (∀ A p B q w, Sl w A us.length p us → Sl w B ys.length q ys → Calls Try.prog 24 #[mv R C (.slice A us.length p), mv C C' (.slice B ys.length q)] w (RetMat w R C' X true)) := c1
        have C2 : Hid (∀ A p B q w, Sl w A X.length p X → Sl w B zs.length q zs → Calls Try.prog 24 #[mv R C' (.slice A X.length p), mv mr mc (.slice B zs.length q)] w (RetMat w RY CY LY kY)) := c2
        have C3 : Hid (∀ A p B q w, Sl w A ys.length p ys → Sl w B zs.length q zs → Calls Try.prog 24 #[mv C C' (.slice A ys.length p), mv mr mc (.slice B zs.length q)] w (RetMat w RZ CZ LZ kZ)) := c3
        have C4 : Hid (∀ A p B q w, Sl w A us.length p us → Sl w B LZ.length q LZ → Calls Try.prog 24 #[mv R C (.slice A us.length p), mv RZ CZ (.slice B LZ.length q)] w (RetMat w RV CV LV kV)) := c4
        have C5 : Hid (∀ A p B q w, Sl w A ys.length p ys → Sl w B ys.length q ys → Calls Try.prog 20 #[mv C C' (.slice A ys.length p), mv C C' (.slice B ys.length q)] w (RetMat w RS CS LS kS)) := c5
        have C6 : Hid (∀ A p B q w, Sl w A us.length p us → Sl w B LS.length q LS → Calls Try.prog 24 #[mv R C (.slice A us.length p), mv RS CS (.slice B LS.length q)] w (RetMat w RT CT LT kT)) := c6
        have C7 : Hid (∀ A p B q w, Sl w A X.length p X → Sl w B X.length q X → Calls Try.prog 20 #[mv R C' (.slice A X.length p), mv R C' (.slice B X.length q)] w (RetMat w RP CP LP kP)) := c7
        have C8 : Hid (∀ A p w, Sl w A X.length p X → Calls Try.prog 22 #[mv R C' (.slice A X.length p), .int .i64 2] w (RetMat w RQ CQ LQ kQ)) := c8
        have S1 := hide s1
        have S2 := hide s2
        have S3 := hide s3
        have AS := hide as_
        have DS := hide ds_
        clear c1 c2 c3 c4 c5 c6 c7 c8 s1 s2 s3 as_ ds_
        obtain ⟨⟨c0_0, c0_1, c0_2⟩, _⟩ := b10_.out
        obtain ⟨⟨c1_0, c1_1, c1_2⟩, _⟩ := b11_.out
        go_wp2_with fail
        refine (C1.out _ _ _ _ _ (Own.sl2 u12_.out) (Own.sl2 u13_.out)).mono ?_; rintro e w6 ⟨s, rfl, ho, hb⟩
        obtain ⟨A6, p6, rfl, _⟩ := Own.sl ho
        have b17_ := hide (b10_.out.call hb |>.alloc (.cells #[.int .i64 R, .int .i64 C', .slice A6 X.length p6] 26))
        clear b10_
        have b18_ := hide (b11_.out.call hb |>.alloc (.cells #[.int .i64 R, .int .i64 C', .slice A6 X.length p6] 26))
        clear b11_
        have u19_ := hide (Own.below u12_.out hb |>.alloc (.cells #[.int .i64 R, .int .i64 C', .slice A6 X.length p6] 26))
        clear u12_
        have u20_ := hide (Own.below u13_.out hb |>.alloc (.cells #[.int .i64 R, .int .i64 C', .slice A6 X.length p6] 26))
        clear u13_
        have b21_ := hide (b15_.out.call hb |>.alloc (.cells #[.int .i64 R, .int .i64 C', .slice A6 X.length p6] 26))
        clear b15_
        have u22_ := hide (Own.below u16_.out hb |>.alloc (.cells #[.int .i64 R, .int .i64 C', .slice A6 X.length p6] 26))
        clear u16_
        have HB23_ := hide ((kb_call HB14_.out (Nat.le_refl _) hb).alloc (by have := HB14_.out.size; have := hb.size; omega) (.cells #[.int .i64 R, .int .i64 C', .slice A6 X.length p6] 26))
        clear HB14_
        have z_2 := hb.size
        (try simp only [World.size_alloc, World.size_setCell, World.size_drew, size_drewN] at z_2)
        have b24_ := hide (Box3.new (x := .int .i64 R) (y := .int .i64 C') (z := .slice A6 X.length p6) w6 w6.heap.size 26 rfl)
        have u25_ := hide (ho |>.alloc (.cells #[.int .i64 R, .int .i64 C', .slice A6 X.length p6] 26))
        clear hb ho c0_0 c0_1 c0_2 c1_0 c1_1 c1_2
        obtain ⟨⟨c0_0, c0_1, c0_2⟩, _⟩ := b24_.out
        obtain ⟨⟨c1_0, c1_1, c1_2⟩, _⟩ := b21_.out
        go_wp2_with fail
        refine (C2.out _ _ _ _ _ (Own.sl2 u25_.out) (Own.sl2 u22_.out)).mono ?_; rintro e w8 ⟨s, rfl, ho, hb⟩
        obtain ⟨A8, p8, rfl, _⟩ := Own.sl ho
        have b26_ := hide (b17_.out.call hb |>.alloc (.cells #[.int .i64 RY, .int .i64 CY, .slice A8 LY.length p8] 26))
        clear b17_
        have b27_ := hide (b18_.out.call hb |>.alloc (.cells #[.int .i64 RY, .int .i64 CY, .slice A8 LY.length p8] 26))
        clear b18_
        have u28_ := hide (Own.below u19_.out hb |>.alloc (.cells #[.int .i64 RY, .int .i64 CY, .slice A8 LY.length p8] 26))
        clear u19_
        have u29_ := hide (Own.below u20_.out hb |>.alloc (.cells #[.int .i64 RY, .int .i64 CY, .slice A8 LY.length p8] 26))
        clear u20_
        have b30_ := hide (b21_.out.call hb |>.alloc (.cells #[.int .i64 RY, .int .i64 CY, .slice A8 LY.length p8] 26))
        clear b21_
        have u31_ := hide (Own.below u22_.out hb |>.alloc (.cells #[.int .i64 RY, .int .i64 CY, .slice A8 LY.length p8] 26))
        clear u22_
        have b32_ := hide (b24_.out.call hb |>.alloc (.cells #[.int .i64 RY, .int .i64 CY, .slice A8 LY.length p8] 26))
        clear b24_
        have u33_ := hide (Own.below u25_.out hb |>.alloc (.cells #[.int .i64 RY, .int .i64 CY, .slice A8 LY.length p8] 26))
        clear u25_
        have HB34_ := hide ((kb_call HB23_.out (Nat.le_refl _) hb).alloc (by have := HB23_.out.size; have := hb.size; omega) (.cells #[.int .i64 RY, .int .i64 CY, .slice A8 LY.length p8] 26))
        clear HB23_
        have z_3 := hb.size
        (try simp only [World.size_alloc, World.size_setCell, World.size_drew, size_drewN] at z_3)
        have b35_ := hide (Box3.new (x := .int .i64 RY) (y := .int .i64 CY) (z := .slice A8 LY.length p8) w8 w8.heap.size 26 rfl)
        have u36_ := hide (ho |>.alloc (.cells #[.int .i64 RY, .int .i64 CY, .slice A8 LY.length p8] 26))
        clear hb ho c0_0 c0_1 c0_2 c1_0 c1_1 c1_2
        obtain ⟨⟨c0_0, c0_1, c0_2⟩, _⟩ := b27_.out
        obtain ⟨⟨c1_0, c1_1, c1_2⟩, _⟩ := b30_.out
        go_wp2_with fail
        refine (C3.out _ _ _ _ _ (Own.sl2 u29_.out) (Own.sl2 u31_.out)).mono ?_; rintro e w10 ⟨s, rfl, ho, hb⟩
        obtain ⟨A10, p10, rfl, _⟩ := Own.sl ho
        have b37_ := hide (b26_.out.call hb |>.alloc (.cells #[.int .i64 RZ, .int .i64 CZ, .slice A10 LZ.length p10] 26))
        clear b26_
        have b38_ := hide (b27_.out.call hb |>.alloc (.cells #[.int .i64 RZ, .int .i64 CZ, .slice A10 LZ.length p10] 26))
        clear b27_
        have u39_ := hide (Own.below u28_.out hb |>.alloc (.cells #[.int .i64 RZ, .int .i64 CZ, .slice A10 LZ.length p10] 26))
        clear u28_
        have u40_ := hide (Own.below u29_.out hb |>.alloc (.cells #[.int .i64 RZ, .int .i64 CZ, .slice A10 LZ.length p10] 26))
        clear u29_
        have b41_ := hide (b30_.out.call hb |>.alloc (.cells #[.int .i64 RZ, .int .i64 CZ, .slice A10 LZ.length p10] 26))
        clear b30_
        have u42_ := hide (Own.below u31_.out hb |>.alloc (.cells #[.int .i64 RZ, .int .i64 CZ, .slice A10 LZ.length p10] 26))
        clear u31_
        have b43_ := hide (b32_.out.call hb |>.alloc (.cells #[.int .i64 RZ, .int .i64 CZ, .slice A10 LZ.length p10] 26))
        clear b32_
        have u44_ := hide (Own.below u33_.out hb |>.alloc (.cells #[.int .i64 RZ, .int .i64 CZ, .slice A10 LZ.length p10] 26))
        clear u33_
        have b45_ := hide (b35_.out.call hb |>.alloc (.cells #[.int .i64 RZ, .int .i64 CZ, .slice A10 LZ.length p10] 26))
        clear b35_
        have u46_ := hide (Own.below u36_.out hb |>.alloc (.cells #[.int .i64 RZ, .int .i64 CZ, .slice A10 LZ.length p10] 26))
        clear u36_
        have HB47_ := hide ((kb_call HB34_.out (Nat.le_refl _) hb).alloc (by have := HB34_.out.size; have := hb.size; omega) (.cells #[.int .i64 RZ, .int .i64 CZ, .slice A10 LZ.length p10] 26))
        clear HB34_
        have z_4 := hb.size
        (try simp only [World.size_alloc, World.size_setCell, World.size_drew, size_drewN] at z_4)
        have b48_ := hide (Box3.new (x := .int .i64 RZ) (y := .int .i64 CZ) (z := .slice A10 LZ.length p10) w10 w10.heap.size 26 rfl)
        have u49_ := hide (ho |>.alloc (.cells #[.int .i64 RZ, .int .i64 CZ, .slice A10 LZ.length p10] 26))
        clear hb ho c0_0 c0_1 c0_2 c1_0 c1_1 c1_2
        clear b41_
        clear u42_
        obtain ⟨⟨c0_0, c0_1, c0_2⟩, _⟩ := b37_.out
        obtain ⟨⟨c1_0, c1_1, c1_2⟩, _⟩ := b48_.out
        go_wp2_with fail
        refine (C4.out _ _ _ _ _ (Own.sl2 u39_.out) (Own.sl2 u49_.out)).mono ?_; rintro e w12 ⟨s, rfl, ho, hb⟩
        obtain ⟨A12, p12, rfl, _⟩ := Own.sl ho
        have b50_ := hide (b37_.out.call hb |>.alloc (.cells #[.int .i64 RV, .int .i64 CV, .slice A12 LV.length p12] 26))
        clear b37_
        have b51_ := hide (b38_.out.call hb |>.alloc (.cells #[.int .i64 RV, .int .i64 CV, .slice A12 LV.length p12] 26))
        clear b38_
        have u52_ := hide (Own.below u39_.out hb |>.alloc (.cells #[.int .i64 RV, .int .i64 CV, .slice A12 LV.length p12] 26))
        clear u39_
        have u53_ := hide (Own.below u40_.out hb |>.alloc (.cells #[.int .i64 RV, .int .i64 CV, .slice A12 LV.length p12] 26))
        clear u40_
        have b54_ := hide (b43_.out.call hb |>.alloc (.cells #[.int .i64 RV, .int .i64 CV, .slice A12 LV.length p12] 26))
        clear b43_
        have u55_ := hide (Own.below u44_.out hb |>.alloc (.cells #[.int .i64 RV, .int .i64 CV, .slice A12 LV.length p12] 26))
        clear u44_
        have b56_ := hide (b45_.out.call hb |>.alloc (.cells #[.int .i64 RV, .int .i64 CV, .slice A12 LV.length p12] 26))
        clear b45_
        have u57_ := hide (Own.below u46_.out hb |>.alloc (.cells #[.int .i64 RV, .int .i64 CV, .slice A12 LV.length p12] 26))
        clear u46_
        have b58_ := hide (b48_.out.call hb |>.alloc (.cells #[.int .i64 RV, .int .i64 CV, .slice A12 LV.length p12] 26))
        clear b48_
        have u59_ := hide (Own.below u49_.out hb |>.alloc (.cells #[.int .i64 RV, .int .i64 CV, .slice A12 LV.length p12] 26))
        clear u49_
        have HB60_ := hide ((kb_call HB47_.out (Nat.le_refl _) hb).alloc (by have := HB47_.out.size; have := hb.size; omega) (.cells #[.int .i64 RV, .int .i64 CV, .slice A12 LV.length p12] 26))
        clear HB47_
        have z_5 := hb.size
        (try simp only [World.size_alloc, World.size_setCell, World.size_drew, size_drewN] at z_5)
        have b61_ := hide (Box3.new (x := .int .i64 RV) (y := .int .i64 CV) (z := .slice A12 LV.length p12) w12 w12.heap.size 26 rfl)
        have u62_ := hide (ho |>.alloc (.cells #[.int .i64 RV, .int .i64 CV, .slice A12 LV.length p12] 26))
        clear hb ho c0_0 c0_1 c0_2 c1_0 c1_1 c1_2
        clear b58_
        clear u59_
        cases kY with
        | false =>
          clear b56_
          clear u57_
          clear b61_
          clear u62_
          obtain ⟨⟨c0_0, c0_1, c0_2⟩, _⟩ := b51_.out
          go_wp2_with fail
          refine (C5.out _ _ _ _ _ (Own.sl2 u53_.out) (Own.sl2 u53_.out)).mono ?_; rintro e w14 ⟨s, rfl, ho, hb⟩
          obtain ⟨A14, p14, rfl, _⟩ := Own.sl ho
          have b63_ := hide (b50_.out.call hb |>.alloc (.cells #[.int .i64 RS, .int .i64 CS, .slice A14 LS.length p14] 26))
          clear b50_
          have b64_ := hide (b51_.out.call hb |>.alloc (.cells #[.int .i64 RS, .int .i64 CS, .slice A14 LS.length p14] 26))
          clear b51_
          have u65_ := hide (Own.below u52_.out hb |>.alloc (.cells #[.int .i64 RS, .int .i64 CS, .slice A14 LS.length p14] 26))
          clear u52_
          have u66_ := hide (Own.below u53_.out hb |>.alloc (.cells #[.int .i64 RS, .int .i64 CS, .slice A14 LS.length p14] 26))
          clear u53_
          have b67_ := hide (b54_.out.call hb |>.alloc (.cells #[.int .i64 RS, .int .i64 CS, .slice A14 LS.length p14] 26))
          clear b54_
          have u68_ := hide (Own.below u55_.out hb |>.alloc (.cells #[.int .i64 RS, .int .i64 CS, .slice A14 LS.length p14] 26))
          clear u55_
          have HB69_ := hide ((kb_call HB60_.out (Nat.le_refl _) hb).alloc (by have := HB60_.out.size; have := hb.size; omega) (.cells #[.int .i64 RS, .int .i64 CS, .slice A14 LS.length p14] 26))
          clear HB60_
          have z_6 := hb.size
          (try simp only [World.size_alloc, World.size_setCell, World.size_drew, size_drewN] at z_6)
          have b70_ := hide (Box3.new (x := .int .i64 RS) (y := .int .i64 CS) (z := .slice A14 LS.length p14) w14 w14.heap.size 26 rfl)
          have u71_ := hide (ho |>.alloc (.cells #[.int .i64 RS, .int .i64 CS, .slice A14 LS.length p14] 26))
          clear hb ho c0_0 c0_1 c0_2
          obtain ⟨⟨c0_0, c0_1, c0_2⟩, _⟩ := b63_.out
          obtain ⟨⟨c1_0, c1_1, c1_2⟩, _⟩ := b70_.out
          go_wp2_with fail
          refine (C6.out _ _ _ _ _ (Own.sl2 u65_.out) (Own.sl2 u71_.out)).mono ?_; rintro e w16 ⟨s, rfl, ho, hb⟩
          obtain ⟨A16, p16, rfl, _⟩ := Own.sl ho
          have b72_ := hide (b63_.out.call hb |>.alloc (.cells #[.int .i64 RT, .int .i64 CT, .slice A16 LT.length p16] 26))
          clear b63_
          have b73_ := hide (b64_.out.call hb |>.alloc (.cells #[.int .i64 RT, .int .i64 CT, .slice A16 LT.length p16] 26))
          clear b64_
          have u74_ := hide (Own.below u65_.out hb |>.alloc (.cells #[.int .i64 RT, .int .i64 CT, .slice A16 LT.length p16] 26))
          clear u65_
          have u75_ := hide (Own.below u66_.out hb |>.alloc (.cells #[.int .i64 RT, .int .i64 CT, .slice A16 LT.length p16] 26))
          clear u66_
          have b76_ := hide (b67_.out.call hb |>.alloc (.cells #[.int .i64 RT, .int .i64 CT, .slice A16 LT.length p16] 26))
          clear b67_
          have u77_ := hide (Own.below u68_.out hb |>.alloc (.cells #[.int .i64 RT, .int .i64 CT, .slice A16 LT.length p16] 26))
          clear u68_
          have b78_ := hide (b70_.out.call hb |>.alloc (.cells #[.int .i64 RT, .int .i64 CT, .slice A16 LT.length p16] 26))
          clear b70_
          have u79_ := hide (Own.below u71_.out hb |>.alloc (.cells #[.int .i64 RT, .int .i64 CT, .slice A16 LT.length p16] 26))
          clear u71_
          have HB80_ := hide ((kb_call HB69_.out (Nat.le_refl _) hb).alloc (by have := HB69_.out.size; have := hb.size; omega) (.cells #[.int .i64 RT, .int .i64 CT, .slice A16 LT.length p16] 26))
          clear HB69_
          have z_7 := hb.size
          (try simp only [World.size_alloc, World.size_setCell, World.size_drew, size_drewN] at z_7)
          have b81_ := hide (Box3.new (x := .int .i64 RT) (y := .int .i64 CT) (z := .slice A16 LT.length p16) w16 w16.heap.size 26 rfl)
          have u82_ := hide (ho |>.alloc (.cells #[.int .i64 RT, .int .i64 CT, .slice A16 LT.length p16] 26))
          clear hb ho c0_0 c0_1 c0_2 c1_0 c1_1 c1_2
          clear b78_
          clear u79_
          clear b72_
          clear b73_
          clear u74_
          clear u75_
          obtain ⟨⟨c0_0, c0_1, c0_2⟩, _⟩ := b76_.out
          go_wp2_with fail
          refine (C7.out _ _ _ _ _ (Own.sl2 u77_.out) (Own.sl2 u77_.out)).mono ?_; rintro e w18 ⟨s, rfl, ho, hb⟩
          obtain ⟨A18, p18, rfl, _⟩ := Own.sl ho
          have b83_ := hide (b76_.out.call hb |>.alloc (.cells #[.int .i64 RP, .int .i64 CP, .slice A18 LP.length p18] 26))
          clear b76_
          have u84_ := hide (Own.below u77_.out hb |>.alloc (.cells #[.int .i64 RP, .int .i64 CP, .slice A18 LP.length p18] 26))
          clear u77_
          have b85_ := hide (b81_.out.call hb |>.alloc (.cells #[.int .i64 RP, .int .i64 CP, .slice A18 LP.length p18] 26))
          clear b81_
          have u86_ := hide (Own.below u82_.out hb |>.alloc (.cells #[.int .i64 RP, .int .i64 CP, .slice A18 LP.length p18] 26))
          clear u82_
          have HB87_ := hide ((kb_call HB80_.out (Nat.le_refl _) hb).alloc (by have := HB80_.out.size; have := hb.size; omega) (.cells #[.int .i64 RP, .int .i64 CP, .slice A18 LP.length p18] 26))
          clear HB80_
          have z_8 := hb.size
          (try simp only [World.size_alloc, World.size_setCell, World.size_drew, size_drewN] at z_8)
          have b88_ := hide (Box3.new (x := .int .i64 RP) (y := .int .i64 CP) (z := .slice A18 LP.length p18) w18 w18.heap.size 26 rfl)
          have u89_ := hide (ho |>.alloc (.cells #[.int .i64 RP, .int .i64 CP, .slice A18 LP.length p18] 26))
          clear hb ho c0_0 c0_1 c0_2
          obtain ⟨⟨c0_0, c0_1, c0_2⟩, _⟩ := b83_.out
          go_wp2_with fail
          refine (C8.out _ _ _ (Own.sl2 u84_.out)).mono ?_; rintro e w20 ⟨s, rfl, ho, hb⟩
          obtain ⟨A20, p20, rfl, _⟩ := Own.sl ho
          have b90_ := hide (b83_.out.call hb |>.alloc (.cells #[.int .i64 RQ, .int .i64 CQ, .slice A20 LQ.length p20] 26))
          clear b83_
          have u91_ := hide (Own.below u84_.out hb |>.alloc (.cells #[.int .i64 RQ, .int .i64 CQ, .slice A20 LQ.length p20] 26))
          clear u84_
          have b92_ := hide (b85_.out.call hb |>.alloc (.cells #[.int .i64 RQ, .int .i64 CQ, .slice A20 LQ.length p20] 26))
          clear b85_
          have u93_ := hide (Own.below u86_.out hb |>.alloc (.cells #[.int .i64 RQ, .int .i64 CQ, .slice A20 LQ.length p20] 26))
          clear u86_
          have b94_ := hide (b88_.out.call hb |>.alloc (.cells #[.int .i64 RQ, .int .i64 CQ, .slice A20 LQ.length p20] 26))
          clear b88_
          have u95_ := hide (Own.below u89_.out hb |>.alloc (.cells #[.int .i64 RQ, .int .i64 CQ, .slice A20 LQ.length p20] 26))
          clear u89_
          have HB96_ := hide ((kb_call HB87_.out (Nat.le_refl _) hb).alloc (by have := HB87_.out.size; have := hb.size; omega) (.cells #[.int .i64 RQ, .int .i64 CQ, .slice A20 LQ.length p20] 26))
          clear HB87_
          have z_9 := hb.size
          (try simp only [World.size_alloc, World.size_setCell, World.size_drew, size_drewN] at z_9)
          have b97_ := hide (Box3.new (x := .int .i64 RQ) (y := .int .i64 CQ) (z := .slice A20 LQ.length p20) w20 w20.heap.size 26 rfl)
          have u98_ := hide (ho |>.alloc (.cells #[.int .i64 RQ, .int .i64 CQ, .slice A20 LQ.length p20] 26))
          clear hb ho c0_0 c0_1 c0_2
          clear b90_
          clear u91_
          cases kS with
          | false =>
            go_wp2
            go_returns
            exact ⟨rfl, HB96_.out⟩
          | true =>
            cases kT with
            | false =>
              go_wp2
              go_returns
              exact ⟨rfl, HB96_.out⟩
            | true =>
              cases kP with
              | false =>
                go_wp2
                go_returns
                exact ⟨rfl, HB96_.out⟩
              | true =>
                cases kQ with
                | false =>
                  go_wp2
                  go_returns
                  exact ⟨rfl, HB96_.out⟩
                | true =>
                  obtain ⟨d1, d2⟩ := DS.out rfl rfl rfl rfl
                  have s2 := S2.out
                  rw [d1] at s2
                  have s3 := S3.out
                  rw [d2] at s3
                  have S2' := hide s2
                  have S3' := hide s3
                  clear S2 S3 s2 s3 d1 d2
                  obtain ⟨⟨c0_0, c0_1, c0_2⟩, _⟩ := b92_.out
                  obtain ⟨⟨c1_0, c1_1, c1_2⟩, _⟩ := b94_.out
                  go_wp2_with fail
                  refine (S2'.out _ _ _ _ _ (Own.reads u93_.out).2 (Own.reads u95_.out).2).mono ?_; rintro e w21 ⟨rfl, hb⟩
                  have b99_ := hide (b92_.out.call hb)
                  clear b92_
                  have u100_ := hide (Own.below u93_.out hb)
                  clear u93_
                  have b101_ := hide (b94_.out.call hb)
                  clear b94_
                  have u102_ := hide (Own.below u95_.out hb)
                  clear u95_
                  have b103_ := hide (b97_.out.call hb)
                  clear b97_
                  have u104_ := hide (Own.below u98_.out hb)
                  clear u98_
                  have HB105_ := hide (kb_call HB96_.out (Nat.le_refl _) hb)
                  clear HB96_
                  have z_10 := hb.size
                  (try simp only [World.size_alloc, World.size_setCell, World.size_drew, size_drewN] at z_10)
                  clear hb c0_0 c0_1 c0_2 c1_0 c1_1 c1_2
                  obtain ⟨⟨c0_0, c0_1, c0_2⟩, _⟩ := b101_.out
                  obtain ⟨⟨c1_0, c1_1, c1_2⟩, _⟩ := b103_.out
                  go_wp2_with fail
                  refine (S3'.out _ _ _ _ _ (Own.reads u102_.out).2 (Own.reads u104_.out).2).mono ?_; rintro e w22 ⟨rfl, hb⟩
                  have b106_ := hide (b99_.out.call hb)
                  clear b99_
                  have u107_ := hide (Own.below u100_.out hb)
                  clear u100_
                  have b108_ := hide (b101_.out.call hb)
                  clear b101_
                  have u109_ := hide (Own.below u102_.out hb)
                  clear u102_
                  have b110_ := hide (b103_.out.call hb)
                  clear b103_
                  have u111_ := hide (Own.below u104_.out hb)
                  clear u104_
                  have HB112_ := hide (kb_call HB105_.out (Nat.le_refl _) hb)
                  clear HB105_
                  have z_11 := hb.size
                  (try simp only [World.size_alloc, World.size_setCell, World.size_drew, size_drewN] at z_11)
                  clear hb c0_0 c0_1 c0_2 c1_0 c1_1 c1_2
                  go_wp2
                  go_returns
                  exact ⟨rfl, HB112_.out⟩
        | true =>
          cases kZ with
          | false =>
            clear b56_
            clear u57_
            clear b61_
            clear u62_
            obtain ⟨⟨c0_0, c0_1, c0_2⟩, _⟩ := b51_.out
            go_wp2_with fail
            refine (C5.out _ _ _ _ _ (Own.sl2 u53_.out) (Own.sl2 u53_.out)).mono ?_; rintro e w14 ⟨s, rfl, ho, hb⟩
            obtain ⟨A14, p14, rfl, _⟩ := Own.sl ho
            have b113_ := hide (b50_.out.call hb |>.alloc (.cells #[.int .i64 RS, .int .i64 CS, .slice A14 LS.length p14] 26))
            clear b50_
            have b114_ := hide (b51_.out.call hb |>.alloc (.cells #[.int .i64 RS, .int .i64 CS, .slice A14 LS.length p14] 26))
            clear b51_
            have u115_ := hide (Own.below u52_.out hb |>.alloc (.cells #[.int .i64 RS, .int .i64 CS, .slice A14 LS.length p14] 26))
            clear u52_
            have u116_ := hide (Own.below u53_.out hb |>.alloc (.cells #[.int .i64 RS, .int .i64 CS, .slice A14 LS.length p14] 26))
            clear u53_
            have b117_ := hide (b54_.out.call hb |>.alloc (.cells #[.int .i64 RS, .int .i64 CS, .slice A14 LS.length p14] 26))
            clear b54_
            have u118_ := hide (Own.below u55_.out hb |>.alloc (.cells #[.int .i64 RS, .int .i64 CS, .slice A14 LS.length p14] 26))
            clear u55_
            have HB119_ := hide ((kb_call HB60_.out (Nat.le_refl _) hb).alloc (by have := HB60_.out.size; have := hb.size; omega) (.cells #[.int .i64 RS, .int .i64 CS, .slice A14 LS.length p14] 26))
            clear HB60_
            have z_6 := hb.size
            (try simp only [World.size_alloc, World.size_setCell, World.size_drew, size_drewN] at z_6)
            have b120_ := hide (Box3.new (x := .int .i64 RS) (y := .int .i64 CS) (z := .slice A14 LS.length p14) w14 w14.heap.size 26 rfl)
            have u121_ := hide (ho |>.alloc (.cells #[.int .i64 RS, .int .i64 CS, .slice A14 LS.length p14] 26))
            clear hb ho c0_0 c0_1 c0_2
            obtain ⟨⟨c0_0, c0_1, c0_2⟩, _⟩ := b113_.out
            obtain ⟨⟨c1_0, c1_1, c1_2⟩, _⟩ := b120_.out
            go_wp2_with fail
            refine (C6.out _ _ _ _ _ (Own.sl2 u115_.out) (Own.sl2 u121_.out)).mono ?_; rintro e w16 ⟨s, rfl, ho, hb⟩
            obtain ⟨A16, p16, rfl, _⟩ := Own.sl ho
            have b122_ := hide (b113_.out.call hb |>.alloc (.cells #[.int .i64 RT, .int .i64 CT, .slice A16 LT.length p16] 26))
            clear b113_
            have b123_ := hide (b114_.out.call hb |>.alloc (.cells #[.int .i64 RT, .int .i64 CT, .slice A16 LT.length p16] 26))
            clear b114_
            have u124_ := hide (Own.below u115_.out hb |>.alloc (.cells #[.int .i64 RT, .int .i64 CT, .slice A16 LT.length p16] 26))
            clear u115_
            have u125_ := hide (Own.below u116_.out hb |>.alloc (.cells #[.int .i64 RT, .int .i64 CT, .slice A16 LT.length p16] 26))
            clear u116_
            have b126_ := hide (b117_.out.call hb |>.alloc (.cells #[.int .i64 RT, .int .i64 CT, .slice A16 LT.length p16] 26))
            clear b117_
            have u127_ := hide (Own.below u118_.out hb |>.alloc (.cells #[.int .i64 RT, .int .i64 CT, .slice A16 LT.length p16] 26))
            clear u118_
            have b128_ := hide (b120_.out.call hb |>.alloc (.cells #[.int .i64 RT, .int .i64 CT, .slice A16 LT.length p16] 26))
            clear b120_
            have u129_ := hide (Own.below u121_.out hb |>.alloc (.cells #[.int .i64 RT, .int .i64 CT, .slice A16 LT.length p16] 26))
            clear u121_
            have HB130_ := hide ((kb_call HB119_.out (Nat.le_refl _) hb).alloc (by have := HB119_.out.size; have := hb.size; omega) (.cells #[.int .i64 RT, .int .i64 CT, .slice A16 LT.length p16] 26))
            clear HB119_
            have z_7 := hb.size
            (try simp only [World.size_alloc, World.size_setCell, World.size_drew, size_drewN] at z_7)
            have b131_ := hide (Box3.new (x := .int .i64 RT) (y := .int .i64 CT) (z := .slice A16 LT.length p16) w16 w16.heap.size 26 rfl)
            have u132_ := hide (ho |>.alloc (.cells #[.int .i64 RT, .int .i64 CT, .slice A16 LT.length p16] 26))
            clear hb ho c0_0 c0_1 c0_2 c1_0 c1_1 c1_2
            clear b128_
            clear u129_
            clear b122_
            clear b123_
            clear u124_
            clear u125_
            obtain ⟨⟨c0_0, c0_1, c0_2⟩, _⟩ := b126_.out
            go_wp2_with fail
            refine (C7.out _ _ _ _ _ (Own.sl2 u127_.out) (Own.sl2 u127_.out)).mono ?_; rintro e w18 ⟨s, rfl, ho, hb⟩
            obtain ⟨A18, p18, rfl, _⟩ := Own.sl ho
            have b133_ := hide (b126_.out.call hb |>.alloc (.cells #[.int .i64 RP, .int .i64 CP, .slice A18 LP.length p18] 26))
            clear b126_
            have u134_ := hide (Own.below u127_.out hb |>.alloc (.cells #[.int .i64 RP, .int .i64 CP, .slice A18 LP.length p18] 26))
            clear u127_
            have b135_ := hide (b131_.out.call hb |>.alloc (.cells #[.int .i64 RP, .int .i64 CP, .slice A18 LP.length p18] 26))
            clear b131_
            have u136_ := hide (Own.below u132_.out hb |>.alloc (.cells #[.int .i64 RP, .int .i64 CP, .slice A18 LP.length p18] 26))
            clear u132_
            have HB137_ := hide ((kb_call HB130_.out (Nat.le_refl _) hb).alloc (by have := HB130_.out.size; have := hb.size; omega) (.cells #[.int .i64 RP, .int .i64 CP, .slice A18 LP.length p18] 26))
            clear HB130_
            have z_8 := hb.size
            (try simp only [World.size_alloc, World.size_setCell, World.size_drew, size_drewN] at z_8)
            have b138_ := hide (Box3.new (x := .int .i64 RP) (y := .int .i64 CP) (z := .slice A18 LP.length p18) w18 w18.heap.size 26 rfl)
            have u139_ := hide (ho |>.alloc (.cells #[.int .i64 RP, .int .i64 CP, .slice A18 LP.length p18] 26))
            clear hb ho c0_0 c0_1 c0_2
            obtain ⟨⟨c0_0, c0_1, c0_2⟩, _⟩ := b133_.out
            go_wp2_with fail
            refine (C8.out _ _ _ (Own.sl2 u134_.out)).mono ?_; rintro e w20 ⟨s, rfl, ho, hb⟩
            obtain ⟨A20, p20, rfl, _⟩ := Own.sl ho
            have b140_ := hide (b133_.out.call hb |>.alloc (.cells #[.int .i64 RQ, .int .i64 CQ, .slice A20 LQ.length p20] 26))
            clear b133_
            have u141_ := hide (Own.below u134_.out hb |>.alloc (.cells #[.int .i64 RQ, .int .i64 CQ, .slice A20 LQ.length p20] 26))
            clear u134_
            have b142_ := hide (b135_.out.call hb |>.alloc (.cells #[.int .i64 RQ, .int .i64 CQ, .slice A20 LQ.length p20] 26))
            clear b135_
            have u143_ := hide (Own.below u136_.out hb |>.alloc (.cells #[.int .i64 RQ, .int .i64 CQ, .slice A20 LQ.length p20] 26))
            clear u136_
            have b144_ := hide (b138_.out.call hb |>.alloc (.cells #[.int .i64 RQ, .int .i64 CQ, .slice A20 LQ.length p20] 26))
            clear b138_
            have u145_ := hide (Own.below u139_.out hb |>.alloc (.cells #[.int .i64 RQ, .int .i64 CQ, .slice A20 LQ.length p20] 26))
            clear u139_
            have HB146_ := hide ((kb_call HB137_.out (Nat.le_refl _) hb).alloc (by have := HB137_.out.size; have := hb.size; omega) (.cells #[.int .i64 RQ, .int .i64 CQ, .slice A20 LQ.length p20] 26))
            clear HB137_
            have z_9 := hb.size
            (try simp only [World.size_alloc, World.size_setCell, World.size_drew, size_drewN] at z_9)
            have b147_ := hide (Box3.new (x := .int .i64 RQ) (y := .int .i64 CQ) (z := .slice A20 LQ.length p20) w20 w20.heap.size 26 rfl)
            have u148_ := hide (ho |>.alloc (.cells #[.int .i64 RQ, .int .i64 CQ, .slice A20 LQ.length p20] 26))
            clear hb ho c0_0 c0_1 c0_2
            clear b140_
            clear u141_
            cases kS with
            | false =>
              go_wp2
              go_returns
              exact ⟨rfl, HB146_.out⟩
            | true =>
              cases kT with
              | false =>
                go_wp2
                go_returns
                exact ⟨rfl, HB146_.out⟩
              | true =>
                cases kP with
                | false =>
                  go_wp2
                  go_returns
                  exact ⟨rfl, HB146_.out⟩
                | true =>
                  cases kQ with
                  | false =>
                    go_wp2
                    go_returns
                    exact ⟨rfl, HB146_.out⟩
                  | true =>
                    obtain ⟨d1, d2⟩ := DS.out rfl rfl rfl rfl
                    have s2 := S2.out
                    rw [d1] at s2
                    have s3 := S3.out
                    rw [d2] at s3
                    have S2' := hide s2
                    have S3' := hide s3
                    clear S2 S3 s2 s3 d1 d2
                    obtain ⟨⟨c0_0, c0_1, c0_2⟩, _⟩ := b142_.out
                    obtain ⟨⟨c1_0, c1_1, c1_2⟩, _⟩ := b144_.out
                    go_wp2_with fail
                    refine (S2'.out _ _ _ _ _ (Own.reads u143_.out).2 (Own.reads u145_.out).2).mono ?_; rintro e w21 ⟨rfl, hb⟩
                    have b149_ := hide (b142_.out.call hb)
                    clear b142_
                    have u150_ := hide (Own.below u143_.out hb)
                    clear u143_
                    have b151_ := hide (b144_.out.call hb)
                    clear b144_
                    have u152_ := hide (Own.below u145_.out hb)
                    clear u145_
                    have b153_ := hide (b147_.out.call hb)
                    clear b147_
                    have u154_ := hide (Own.below u148_.out hb)
                    clear u148_
                    have HB155_ := hide (kb_call HB146_.out (Nat.le_refl _) hb)
                    clear HB146_
                    have z_10 := hb.size
                    (try simp only [World.size_alloc, World.size_setCell, World.size_drew, size_drewN] at z_10)
                    clear hb c0_0 c0_1 c0_2 c1_0 c1_1 c1_2
                    obtain ⟨⟨c0_0, c0_1, c0_2⟩, _⟩ := b151_.out
                    obtain ⟨⟨c1_0, c1_1, c1_2⟩, _⟩ := b153_.out
                    go_wp2_with fail
                    refine (S3'.out _ _ _ _ _ (Own.reads u152_.out).2 (Own.reads u154_.out).2).mono ?_; rintro e w22 ⟨rfl, hb⟩
                    have b156_ := hide (b149_.out.call hb)
                    clear b149_
                    have u157_ := hide (Own.below u150_.out hb)
                    clear u150_
                    have b158_ := hide (b151_.out.call hb)
                    clear b151_
                    have u159_ := hide (Own.below u152_.out hb)
                    clear u152_
                    have b160_ := hide (b153_.out.call hb)
                    clear b153_
                    have u161_ := hide (Own.below u154_.out hb)
                    clear u154_
                    have HB162_ := hide (kb_call HB155_.out (Nat.le_refl _) hb)
                    clear HB155_
                    have z_11 := hb.size
                    (try simp only [World.size_alloc, World.size_setCell, World.size_drew, size_drewN] at z_11)
                    clear hb c0_0 c0_1 c0_2 c1_0 c1_1 c1_2
                    go_wp2
                    go_returns
                    exact ⟨rfl, HB162_.out⟩
          | true =>
            cases kV with
            | false =>
              clear b56_
              clear u57_
              clear b61_
              clear u62_
              obtain ⟨⟨c0_0, c0_1, c0_2⟩, _⟩ := b51_.out
              go_wp2_with fail
              refine (C5.out _ _ _ _ _ (Own.sl2 u53_.out) (Own.sl2 u53_.out)).mono ?_; rintro e w14 ⟨s, rfl, ho, hb⟩
              obtain ⟨A14, p14, rfl, _⟩ := Own.sl ho
              have b163_ := hide (b50_.out.call hb |>.alloc (.cells #[.int .i64 RS, .int .i64 CS, .slice A14 LS.length p14] 26))
              clear b50_
              have b164_ := hide (b51_.out.call hb |>.alloc (.cells #[.int .i64 RS, .int .i64 CS, .slice A14 LS.length p14] 26))
              clear b51_
              have u165_ := hide (Own.below u52_.out hb |>.alloc (.cells #[.int .i64 RS, .int .i64 CS, .slice A14 LS.length p14] 26))
              clear u52_
              have u166_ := hide (Own.below u53_.out hb |>.alloc (.cells #[.int .i64 RS, .int .i64 CS, .slice A14 LS.length p14] 26))
              clear u53_
              have b167_ := hide (b54_.out.call hb |>.alloc (.cells #[.int .i64 RS, .int .i64 CS, .slice A14 LS.length p14] 26))
              clear b54_
              have u168_ := hide (Own.below u55_.out hb |>.alloc (.cells #[.int .i64 RS, .int .i64 CS, .slice A14 LS.length p14] 26))
              clear u55_
              have HB169_ := hide ((kb_call HB60_.out (Nat.le_refl _) hb).alloc (by have := HB60_.out.size; have := hb.size; omega) (.cells #[.int .i64 RS, .int .i64 CS, .slice A14 LS.length p14] 26))
              clear HB60_
              have z_6 := hb.size
              (try simp only [World.size_alloc, World.size_setCell, World.size_drew, size_drewN] at z_6)
              have b170_ := hide (Box3.new (x := .int .i64 RS) (y := .int .i64 CS) (z := .slice A14 LS.length p14) w14 w14.heap.size 26 rfl)
              have u171_ := hide (ho |>.alloc (.cells #[.int .i64 RS, .int .i64 CS, .slice A14 LS.length p14] 26))
              clear hb ho c0_0 c0_1 c0_2
              obtain ⟨⟨c0_0, c0_1, c0_2⟩, _⟩ := b163_.out
              obtain ⟨⟨c1_0, c1_1, c1_2⟩, _⟩ := b170_.out
              go_wp2_with fail
              refine (C6.out _ _ _ _ _ (Own.sl2 u165_.out) (Own.sl2 u171_.out)).mono ?_; rintro e w16 ⟨s, rfl, ho, hb⟩
              obtain ⟨A16, p16, rfl, _⟩ := Own.sl ho
              have b172_ := hide (b163_.out.call hb |>.alloc (.cells #[.int .i64 RT, .int .i64 CT, .slice A16 LT.length p16] 26))
              clear b163_
              have b173_ := hide (b164_.out.call hb |>.alloc (.cells #[.int .i64 RT, .int .i64 CT, .slice A16 LT.length p16] 26))
              clear b164_
              have u174_ := hide (Own.below u165_.out hb |>.alloc (.cells #[.int .i64 RT, .int .i64 CT, .slice A16 LT.length p16] 26))
              clear u165_
              have u175_ := hide (Own.below u166_.out hb |>.alloc (.cells #[.int .i64 RT, .int .i64 CT, .slice A16 LT.length p16] 26))
              clear u166_
              have b176_ := hide (b167_.out.call hb |>.alloc (.cells #[.int .i64 RT, .int .i64 CT, .slice A16 LT.length p16] 26))
              clear b167_
              have u177_ := hide (Own.below u168_.out hb |>.alloc (.cells #[.int .i64 RT, .int .i64 CT, .slice A16 LT.length p16] 26))
              clear u168_
              have b178_ := hide (b170_.out.call hb |>.alloc (.cells #[.int .i64 RT, .int .i64 CT, .slice A16 LT.length p16] 26))
              clear b170_
              have u179_ := hide (Own.below u171_.out hb |>.alloc (.cells #[.int .i64 RT, .int .i64 CT, .slice A16 LT.length p16] 26))
              clear u171_
              have HB180_ := hide ((kb_call HB169_.out (Nat.le_refl _) hb).alloc (by have := HB169_.out.size; have := hb.size; omega) (.cells #[.int .i64 RT, .int .i64 CT, .slice A16 LT.length p16] 26))
              clear HB169_
              have z_7 := hb.size
              (try simp only [World.size_alloc, World.size_setCell, World.size_drew, size_drewN] at z_7)
              have b181_ := hide (Box3.new (x := .int .i64 RT) (y := .int .i64 CT) (z := .slice A16 LT.length p16) w16 w16.heap.size 26 rfl)
              have u182_ := hide (ho |>.alloc (.cells #[.int .i64 RT, .int .i64 CT, .slice A16 LT.length p16] 26))
              clear hb ho c0_0 c0_1 c0_2 c1_0 c1_1 c1_2
              clear b178_
              clear u179_
              clear b172_
              clear b173_
              clear u174_
              clear u175_
              obtain ⟨⟨c0_0, c0_1, c0_2⟩, _⟩ := b176_.out
              go_wp2_with fail
              refine (C7.out _ _ _ _ _ (Own.sl2 u177_.out) (Own.sl2 u177_.out)).mono ?_; rintro e w18 ⟨s, rfl, ho, hb⟩
              obtain ⟨A18, p18, rfl, _⟩ := Own.sl ho
              have b183_ := hide (b176_.out.call hb |>.alloc (.cells #[.int .i64 RP, .int .i64 CP, .slice A18 LP.length p18] 26))
              clear b176_
              have u184_ := hide (Own.below u177_.out hb |>.alloc (.cells #[.int .i64 RP, .int .i64 CP, .slice A18 LP.length p18] 26))
              clear u177_
              have b185_ := hide (b181_.out.call hb |>.alloc (.cells #[.int .i64 RP, .int .i64 CP, .slice A18 LP.length p18] 26))
              clear b181_
              have u186_ := hide (Own.below u182_.out hb |>.alloc (.cells #[.int .i64 RP, .int .i64 CP, .slice A18 LP.length p18] 26))
              clear u182_
              have HB187_ := hide ((kb_call HB180_.out (Nat.le_refl _) hb).alloc (by have := HB180_.out.size; have := hb.size; omega) (.cells #[.int .i64 RP, .int .i64 CP, .slice A18 LP.length p18] 26))
              clear HB180_
              have z_8 := hb.size
              (try simp only [World.size_alloc, World.size_setCell, World.size_drew, size_drewN] at z_8)
              have b188_ := hide (Box3.new (x := .int .i64 RP) (y := .int .i64 CP) (z := .slice A18 LP.length p18) w18 w18.heap.size 26 rfl)
              have u189_ := hide (ho |>.alloc (.cells #[.int .i64 RP, .int .i64 CP, .slice A18 LP.length p18] 26))
              clear hb ho c0_0 c0_1 c0_2
              obtain ⟨⟨c0_0, c0_1, c0_2⟩, _⟩ := b183_.out
              go_wp2_with fail
              refine (C8.out _ _ _ (Own.sl2 u184_.out)).mono ?_; rintro e w20 ⟨s, rfl, ho, hb⟩
              obtain ⟨A20, p20, rfl, _⟩ := Own.sl ho
              have b190_ := hide (b183_.out.call hb |>.alloc (.cells #[.int .i64 RQ, .int .i64 CQ, .slice A20 LQ.length p20] 26))
              clear b183_
              have u191_ := hide (Own.below u184_.out hb |>.alloc (.cells #[.int .i64 RQ, .int .i64 CQ, .slice A20 LQ.length p20] 26))
              clear u184_
              have b192_ := hide (b185_.out.call hb |>.alloc (.cells #[.int .i64 RQ, .int .i64 CQ, .slice A20 LQ.length p20] 26))
              clear b185_
              have u193_ := hide (Own.below u186_.out hb |>.alloc (.cells #[.int .i64 RQ, .int .i64 CQ, .slice A20 LQ.length p20] 26))
              clear u186_
              have b194_ := hide (b188_.out.call hb |>.alloc (.cells #[.int .i64 RQ, .int .i64 CQ, .slice A20 LQ.length p20] 26))
              clear b188_
              have u195_ := hide (Own.below u189_.out hb |>.alloc (.cells #[.int .i64 RQ, .int .i64 CQ, .slice A20 LQ.length p20] 26))
              clear u189_
              have HB196_ := hide ((kb_call HB187_.out (Nat.le_refl _) hb).alloc (by have := HB187_.out.size; have := hb.size; omega) (.cells #[.int .i64 RQ, .int .i64 CQ, .slice A20 LQ.length p20] 26))
              clear HB187_
              have z_9 := hb.size
              (try simp only [World.size_alloc, World.size_setCell, World.size_drew, size_drewN] at z_9)
              have b197_ := hide (Box3.new (x := .int .i64 RQ) (y := .int .i64 CQ) (z := .slice A20 LQ.length p20) w20 w20.heap.size 26 rfl)
              have u198_ := hide (ho |>.alloc (.cells #[.int .i64 RQ, .int .i64 CQ, .slice A20 LQ.length p20] 26))
              clear hb ho c0_0 c0_1 c0_2
              clear b190_
              clear u191_
              cases kS with
              | false =>
                go_wp2
                go_returns
                exact ⟨rfl, HB196_.out⟩
              | true =>
                cases kT with
                | false =>
                  go_wp2
                  go_returns
                  exact ⟨rfl, HB196_.out⟩
                | true =>
                  cases kP with
                  | false =>
                    go_wp2
                    go_returns
                    exact ⟨rfl, HB196_.out⟩
                  | true =>
                    cases kQ with
                    | false =>
                      go_wp2
                      go_returns
                      exact ⟨rfl, HB196_.out⟩
                    | true =>
                      obtain ⟨d1, d2⟩ := DS.out rfl rfl rfl rfl
                      have s2 := S2.out
                      rw [d1] at s2
                      have s3 := S3.out
                      rw [d2] at s3
                      have S2' := hide s2
                      have S3' := hide s3
                      clear S2 S3 s2 s3 d1 d2
                      obtain ⟨⟨c0_0, c0_1, c0_2⟩, _⟩ := b192_.out
                      obtain ⟨⟨c1_0, c1_1, c1_2⟩, _⟩ := b194_.out
                      go_wp2_with fail
                      refine (S2'.out _ _ _ _ _ (Own.reads u193_.out).2 (Own.reads u195_.out).2).mono ?_; rintro e w21 ⟨rfl, hb⟩
                      have b199_ := hide (b192_.out.call hb)
                      clear b192_
                      have u200_ := hide (Own.below u193_.out hb)
                      clear u193_
                      have b201_ := hide (b194_.out.call hb)
                      clear b194_
                      have u202_ := hide (Own.below u195_.out hb)
                      clear u195_
                      have b203_ := hide (b197_.out.call hb)
                      clear b197_
                      have u204_ := hide (Own.below u198_.out hb)
                      clear u198_
                      have HB205_ := hide (kb_call HB196_.out (Nat.le_refl _) hb)
                      clear HB196_
                      have z_10 := hb.size
                      (try simp only [World.size_alloc, World.size_setCell, World.size_drew, size_drewN] at z_10)
                      clear hb c0_0 c0_1 c0_2 c1_0 c1_1 c1_2
                      obtain ⟨⟨c0_0, c0_1, c0_2⟩, _⟩ := b201_.out
                      obtain ⟨⟨c1_0, c1_1, c1_2⟩, _⟩ := b203_.out
                      go_wp2_with fail
                      refine (S3'.out _ _ _ _ _ (Own.reads u202_.out).2 (Own.reads u204_.out).2).mono ?_; rintro e w22 ⟨rfl, hb⟩
                      have b206_ := hide (b199_.out.call hb)
                      clear b199_
                      have u207_ := hide (Own.below u200_.out hb)
                      clear u200_
                      have b208_ := hide (b201_.out.call hb)
                      clear b201_
                      have u209_ := hide (Own.below u202_.out hb)
                      clear u202_
                      have b210_ := hide (b203_.out.call hb)
                      clear b203_
                      have u211_ := hide (Own.below u204_.out hb)
                      clear u204_
                      have HB212_ := hide (kb_call HB205_.out (Nat.le_refl _) hb)
                      clear HB205_
                      have z_11 := hb.size
                      (try simp only [World.size_alloc, World.size_setCell, World.size_drew, size_drewN] at z_11)
                      clear hb c0_0 c0_1 c0_2 c1_0 c1_1 c1_2
                      go_wp2
                      go_returns
                      exact ⟨rfl, HB212_.out⟩
            | true =>
              have a1 := AS.out rfl rfl rfl
              have s1 := S1.out
              rw [a1] at s1
              have S1' := hide s1
              clear S1 s1 a1
              obtain ⟨⟨c0_0, c0_1, c0_2⟩, _⟩ := b56_.out
              obtain ⟨⟨c1_0, c1_1, c1_2⟩, _⟩ := b61_.out
              go_wp2_with fail
              refine (S1'.out _ _ _ _ _ (Own.reads u57_.out).2 (Own.reads u62_.out).2).mono ?_; rintro e w13 ⟨rfl, hb⟩
              have b213_ := hide (b50_.out.call hb)
              clear b50_
              have b214_ := hide (b51_.out.call hb)
              clear b51_
              have u215_ := hide (Own.below u52_.out hb)
              clear u52_
              have u216_ := hide (Own.below u53_.out hb)
              clear u53_
              have b217_ := hide (b54_.out.call hb)
              clear b54_
              have u218_ := hide (Own.below u55_.out hb)
              clear u55_
              have b219_ := hide (b56_.out.call hb)
              clear b56_
              have u220_ := hide (Own.below u57_.out hb)
              clear u57_
              have b221_ := hide (b61_.out.call hb)
              clear b61_
              have u222_ := hide (Own.below u62_.out hb)
              clear u62_
              have HB223_ := hide (kb_call HB60_.out (Nat.le_refl _) hb)
              clear HB60_
              have z_6 := hb.size
              (try simp only [World.size_alloc, World.size_setCell, World.size_drew, size_drewN] at z_6)
              clear hb c0_0 c0_1 c0_2 c1_0 c1_1 c1_2
              clear b219_
              clear u220_
              clear b221_
              clear u222_
              obtain ⟨⟨c0_0, c0_1, c0_2⟩, _⟩ := b214_.out
              go_wp2_with fail
              refine (C5.out _ _ _ _ _ (Own.sl2 u216_.out) (Own.sl2 u216_.out)).mono ?_; rintro e w14 ⟨s, rfl, ho, hb⟩
              obtain ⟨A14, p14, rfl, _⟩ := Own.sl ho
              have b224_ := hide (b213_.out.call hb |>.alloc (.cells #[.int .i64 RS, .int .i64 CS, .slice A14 LS.length p14] 26))
              clear b213_
              have b225_ := hide (b214_.out.call hb |>.alloc (.cells #[.int .i64 RS, .int .i64 CS, .slice A14 LS.length p14] 26))
              clear b214_
              have u226_ := hide (Own.below u215_.out hb |>.alloc (.cells #[.int .i64 RS, .int .i64 CS, .slice A14 LS.length p14] 26))
              clear u215_
              have u227_ := hide (Own.below u216_.out hb |>.alloc (.cells #[.int .i64 RS, .int .i64 CS, .slice A14 LS.length p14] 26))
              clear u216_
              have b228_ := hide (b217_.out.call hb |>.alloc (.cells #[.int .i64 RS, .int .i64 CS, .slice A14 LS.length p14] 26))
              clear b217_
              have u229_ := hide (Own.below u218_.out hb |>.alloc (.cells #[.int .i64 RS, .int .i64 CS, .slice A14 LS.length p14] 26))
              clear u218_
              have HB230_ := hide ((kb_call HB223_.out (Nat.le_refl _) hb).alloc (by have := HB223_.out.size; have := hb.size; omega) (.cells #[.int .i64 RS, .int .i64 CS, .slice A14 LS.length p14] 26))
              clear HB223_
              have z_7 := hb.size
              (try simp only [World.size_alloc, World.size_setCell, World.size_drew, size_drewN] at z_7)
              have b231_ := hide (Box3.new (x := .int .i64 RS) (y := .int .i64 CS) (z := .slice A14 LS.length p14) w14 w14.heap.size 26 rfl)
              have u232_ := hide (ho |>.alloc (.cells #[.int .i64 RS, .int .i64 CS, .slice A14 LS.length p14] 26))
              clear hb ho c0_0 c0_1 c0_2
              obtain ⟨⟨c0_0, c0_1, c0_2⟩, _⟩ := b224_.out
              obtain ⟨⟨c1_0, c1_1, c1_2⟩, _⟩ := b231_.out
              go_wp2_with fail
              refine (C6.out _ _ _ _ _ (Own.sl2 u226_.out) (Own.sl2 u232_.out)).mono ?_; rintro e w16 ⟨s, rfl, ho, hb⟩
              obtain ⟨A16, p16, rfl, _⟩ := Own.sl ho
              have b233_ := hide (b224_.out.call hb |>.alloc (.cells #[.int .i64 RT, .int .i64 CT, .slice A16 LT.length p16] 26))
              clear b224_
              have b234_ := hide (b225_.out.call hb |>.alloc (.cells #[.int .i64 RT, .int .i64 CT, .slice A16 LT.length p16] 26))
              clear b225_
              have u235_ := hide (Own.below u226_.out hb |>.alloc (.cells #[.int .i64 RT, .int .i64 CT, .slice A16 LT.length p16] 26))
              clear u226_
              have u236_ := hide (Own.below u227_.out hb |>.alloc (.cells #[.int .i64 RT, .int .i64 CT, .slice A16 LT.length p16] 26))
              clear u227_
              have b237_ := hide (b228_.out.call hb |>.alloc (.cells #[.int .i64 RT, .int .i64 CT, .slice A16 LT.length p16] 26))
              clear b228_
              have u238_ := hide (Own.below u229_.out hb |>.alloc (.cells #[.int .i64 RT, .int .i64 CT, .slice A16 LT.length p16] 26))
              clear u229_
              have b239_ := hide (b231_.out.call hb |>.alloc (.cells #[.int .i64 RT, .int .i64 CT, .slice A16 LT.length p16] 26))
              clear b231_
              have u240_ := hide (Own.below u232_.out hb |>.alloc (.cells #[.int .i64 RT, .int .i64 CT, .slice A16 LT.length p16] 26))
              clear u232_
              have HB241_ := hide ((kb_call HB230_.out (Nat.le_refl _) hb).alloc (by have := HB230_.out.size; have := hb.size; omega) (.cells #[.int .i64 RT, .int .i64 CT, .slice A16 LT.length p16] 26))
              clear HB230_
              have z_8 := hb.size
              (try simp only [World.size_alloc, World.size_setCell, World.size_drew, size_drewN] at z_8)
              have b242_ := hide (Box3.new (x := .int .i64 RT) (y := .int .i64 CT) (z := .slice A16 LT.length p16) w16 w16.heap.size 26 rfl)
              have u243_ := hide (ho |>.alloc (.cells #[.int .i64 RT, .int .i64 CT, .slice A16 LT.length p16] 26))
              clear hb ho c0_0 c0_1 c0_2 c1_0 c1_1 c1_2
              clear b239_
              clear u240_
              clear b233_
              clear b234_
              clear u235_
              clear u236_
              obtain ⟨⟨c0_0, c0_1, c0_2⟩, _⟩ := b237_.out
              go_wp2_with fail
              refine (C7.out _ _ _ _ _ (Own.sl2 u238_.out) (Own.sl2 u238_.out)).mono ?_; rintro e w18 ⟨s, rfl, ho, hb⟩
              obtain ⟨A18, p18, rfl, _⟩ := Own.sl ho
              have b244_ := hide (b237_.out.call hb |>.alloc (.cells #[.int .i64 RP, .int .i64 CP, .slice A18 LP.length p18] 26))
              clear b237_
              have u245_ := hide (Own.below u238_.out hb |>.alloc (.cells #[.int .i64 RP, .int .i64 CP, .slice A18 LP.length p18] 26))
              clear u238_
              have b246_ := hide (b242_.out.call hb |>.alloc (.cells #[.int .i64 RP, .int .i64 CP, .slice A18 LP.length p18] 26))
              clear b242_
              have u247_ := hide (Own.below u243_.out hb |>.alloc (.cells #[.int .i64 RP, .int .i64 CP, .slice A18 LP.length p18] 26))
              clear u243_
              have HB248_ := hide ((kb_call HB241_.out (Nat.le_refl _) hb).alloc (by have := HB241_.out.size; have := hb.size; omega) (.cells #[.int .i64 RP, .int .i64 CP, .slice A18 LP.length p18] 26))
              clear HB241_
              have z_9 := hb.size
              (try simp only [World.size_alloc, World.size_setCell, World.size_drew, size_drewN] at z_9)
              have b249_ := hide (Box3.new (x := .int .i64 RP) (y := .int .i64 CP) (z := .slice A18 LP.length p18) w18 w18.heap.size 26 rfl)
              have u250_ := hide (ho |>.alloc (.cells #[.int .i64 RP, .int .i64 CP, .slice A18 LP.length p18] 26))
              clear hb ho c0_0 c0_1 c0_2
              obtain ⟨⟨c0_0, c0_1, c0_2⟩, _⟩ := b244_.out
              go_wp2_with fail
              refine (C8.out _ _ _ (Own.sl2 u245_.out)).mono ?_; rintro e w20 ⟨s, rfl, ho, hb⟩
              obtain ⟨A20, p20, rfl, _⟩ := Own.sl ho
              have b251_ := hide (b244_.out.call hb |>.alloc (.cells #[.int .i64 RQ, .int .i64 CQ, .slice A20 LQ.length p20] 26))
              clear b244_
              have u252_ := hide (Own.below u245_.out hb |>.alloc (.cells #[.int .i64 RQ, .int .i64 CQ, .slice A20 LQ.length p20] 26))
              clear u245_
              have b253_ := hide (b246_.out.call hb |>.alloc (.cells #[.int .i64 RQ, .int .i64 CQ, .slice A20 LQ.length p20] 26))
              clear b246_
              have u254_ := hide (Own.below u247_.out hb |>.alloc (.cells #[.int .i64 RQ, .int .i64 CQ, .slice A20 LQ.length p20] 26))
              clear u247_
              have b255_ := hide (b249_.out.call hb |>.alloc (.cells #[.int .i64 RQ, .int .i64 CQ, .slice A20 LQ.length p20] 26))
              clear b249_
              have u256_ := hide (Own.below u250_.out hb |>.alloc (.cells #[.int .i64 RQ, .int .i64 CQ, .slice A20 LQ.length p20] 26))
              clear u250_
              have HB257_ := hide ((kb_call HB248_.out (Nat.le_refl _) hb).alloc (by have := HB248_.out.size; have := hb.size; omega) (.cells #[.int .i64 RQ, .int .i64 CQ, .slice A20 LQ.length p20] 26))
              clear HB248_
              have z_10 := hb.size
              (try simp only [World.size_alloc, World.size_setCell, World.size_drew, size_drewN] at z_10)
              have b258_ := hide (Box3.new (x := .int .i64 RQ) (y := .int .i64 CQ) (z := .slice A20 LQ.length p20) w20 w20.heap.size 26 rfl)
              have u259_ := hide (ho |>.alloc (.cells #[.int .i64 RQ, .int .i64 CQ, .slice A20 LQ.length p20] 26))
              clear hb ho c0_0 c0_1 c0_2
              clear b251_
              clear u252_
              cases kS with
              | false =>
                go_wp2
                go_returns
                exact ⟨rfl, HB257_.out⟩
              | true =>
                cases kT with
                | false =>
                  go_wp2
                  go_returns
                  exact ⟨rfl, HB257_.out⟩
                | true =>
                  cases kP with
                  | false =>
                    go_wp2
                    go_returns
                    exact ⟨rfl, HB257_.out⟩
                  | true =>
                    cases kQ with
                    | false =>
                      go_wp2
                      go_returns
                      exact ⟨rfl, HB257_.out⟩
                    | true =>
                      obtain ⟨d1, d2⟩ := DS.out rfl rfl rfl rfl
                      have s2 := S2.out
                      rw [d1] at s2
                      have s3 := S3.out
                      rw [d2] at s3
                      have S2' := hide s2
                      have S3' := hide s3
                      clear S2 S3 s2 s3 d1 d2
                      obtain ⟨⟨c0_0, c0_1, c0_2⟩, _⟩ := b253_.out
                      obtain ⟨⟨c1_0, c1_1, c1_2⟩, _⟩ := b255_.out
                      go_wp2_with fail
                      refine (S2'.out _ _ _ _ _ (Own.reads u254_.out).2 (Own.reads u256_.out).2).mono ?_; rintro e w21 ⟨rfl, hb⟩
                      have b260_ := hide (b253_.out.call hb)
                      clear b253_
                      have u261_ := hide (Own.below u254_.out hb)
                      clear u254_
                      have b262_ := hide (b255_.out.call hb)
                      clear b255_
                      have u263_ := hide (Own.below u256_.out hb)
                      clear u256_
                      have b264_ := hide (b258_.out.call hb)
                      clear b258_
                      have u265_ := hide (Own.below u259_.out hb)
                      clear u259_
                      have HB266_ := hide (kb_call HB257_.out (Nat.le_refl _) hb)
                      clear HB257_
                      have z_11 := hb.size
                      (try simp only [World.size_alloc, World.size_setCell, World.size_drew, size_drewN] at z_11)
                      clear hb c0_0 c0_1 c0_2 c1_0 c1_1 c1_2
                      obtain ⟨⟨c0_0, c0_1, c0_2⟩, _⟩ := b262_.out
                      obtain ⟨⟨c1_0, c1_1, c1_2⟩, _⟩ := b264_.out
                      go_wp2_with fail
                      refine (S3'.out _ _ _ _ _ (Own.reads u263_.out).2 (Own.reads u265_.out).2).mono ?_; rintro e w22 ⟨rfl, hb⟩
                      have b267_ := hide (b260_.out.call hb)
                      clear b260_
                      have u268_ := hide (Own.below u261_.out hb)
                      clear u261_
                      have b269_ := hide (b262_.out.call hb)
                      clear b262_
                      have u270_ := hide (Own.below u263_.out hb)
                      clear u263_
                      have b271_ := hide (b264_.out.call hb)
                      clear b264_
                      have u272_ := hide (Own.below u265_.out hb)
                      clear u265_
                      have HB273_ := hide (kb_call HB266_.out (Nat.le_refl _) hb)
                      clear HB266_
                      have z_12 := hb.size
                      (try simp only [World.size_alloc, World.size_setCell, World.size_drew, size_drewN] at z_12)
                      clear hb c0_0 c0_1 c0_2 c1_0 c1_1 c1_2
                      go_wp2
                      go_returns
                      exact ⟨rfl, HB273_.out⟩
  · go_enter Try.func9, Try.ntmps9
    go_wp2_with fail
    refine (lawBig_yes A n cap _ (by omega) (by omega)).mono ?_; rintro e w0 ⟨rfl, rfl⟩
    go_wp2
    go_returns
    exact ⟨rfl, Below.refl _ _⟩
end Go.Proofs.Ytjopanbccfebnaa
