/- DoRowOps: the reference's walk. -/
import Derived.Test.YthbmmoajfghjbaaDosW
import Derived.Test.YthbmmoajfghjbaaDoSp
import Derived.Deep.RegionHeld3
import Derived.Deep.DeepCutAuto
namespace Go.Proofs.Ythbmmoajfghjbaa
open Go.RowKit
set_option linter.unusedSimpArgs false
set_option linter.unusedVariables false
set_option maxRecDepth 100000 in
set_option maxHeartbeats 8000000 in
theorem specDoOps (r c : Int) (r0 : -9223372036854775808 ≤ r) (r1 : r ≤ 9223372036854775807) (A B : Option Addr) (cap n d : Nat) (xs cs : List Int) (w : World) (hA : Sl w A xs.length cap xs) (hn : xs.length ≤ 1048576) (hX : SlX w B n cs) (hn' : n ≤ 1048576) :
    Calls Try.prog 24 #[mv r c (.slice A xs.length cap), .slice B n d] w (RetM w (doRes r c xs n cs)) := by
  have HA := hide hA
  have HX := hide hX
  clear hA hX
  obtain ⟨p, hp⟩ : ∃ p, doRes r c xs n cs = p := ⟨_, rfl⟩
  rw [hp]
  have HB0 : Hid (Below w.heap.size w ((w.alloc (.cells #[.int .i64 r, .int .i64 c, .slice A xs.length cap] 36)).alloc (.cells #[.int .i64 0, .int .i64 0, .slice none 0 0] 36))) := (by repeat' (first | exact Below.refl _ _ | (refine Below.alloc ?_ ?_ _) | (refine Below.setCell ?_ ?_ _) | (refine Below.drew ?_) | (refine below_drewN ?_ _) | (refine Below.trans ?_ (Below.mono (by assumption) ?_)) | omega | (simp only [World.size_alloc, World.size_setCell, World.size_drew, size_drewN]; omega)))
  have N0 := hide ((Box3.new (x := .int .i64 r) (y := .int .i64 c) (z := .slice A xs.length cap) w w.heap.size 36 rfl).alloc (.cells #[.int .i64 0, .int .i64 0, .slice none 0 0] 36))
  have R0 := hide (Box3.new (x := .int .i64 0) (y := .int .i64 0) (z := .slice none 0 0) (w.alloc (.cells #[.int .i64 r, .int .i64 c, .slice A xs.length cap] 36)) (w.heap.size + 1) 36 (by simp))
  have CM := hide fun (w' : World) (h : Sl w' A xs.length cap xs) => specIsMatrix r c A cap xs w' h.2.2.2.2 hn
  have CC := hide fun (w' : World) (h : Sl w' A xs.length cap xs) => specCopy r c A cap xs w' h hn
  rw [doRes] at hp
  have HPD := hide hp
  clear hp
  go_enter Try.func24, Try.ntmps24
  obtain ⟨⟨i0, i1, i2⟩, _⟩ := N0.out
  go_wp2_with fail
  refine (CM.out _ (HA.out.below HB0.out)).mono ?_; rintro e w1 ⟨rfl, hb⟩
  have N1 := hide (N0.out.call hb)
  have R1 := hide (R0.out.call hb)
  have HB1 := hide (kb_call HB0.out (by omega) hb)
  clear hb N0 R0 HB0 CM i0 i1 i2
  rcases Bool.eq_false_or_eq_true (isMat r c xs) with hbm | hbm
  · rw [hbm]
    by_cases h40 : n ≤ 40
    · have d40 : ¬ ((40 : Int) < (n : Int)) := by omega
      have HPE : Hid (p = doM r c (doN r c xs cs n)) := by rw [Hid, ← HPD.out, if_pos ⟨hbm, h40⟩]
      clear HPD hbm
      obtain ⟨⟨i0, i1, i2⟩, _⟩ := N1.out
      go_wp2_with fail
      refine (CC.out _ (HA.out.below HB1.out)).mono ?_; rintro e w2 ⟨s, rfl, ho, hb⟩
      obtain ⟨A2, z2, rfl, _⟩ := Own.sl ho
      have hlo := Own.lt ho
      have R2 := hide ((R1.out.call hb).alloc (.cells #[.int .i64 r, .int .i64 c, .slice A2 xs.length z2] 36))
      have O2 := hide (ho.alloc (.cells #[.int .i64 r, .int .i64 c, .slice A2 xs.length z2] 36))
      have M2 := hide (Box3.new (x := .int .i64 r) (y := .int .i64 c) (z := .slice A2 xs.length z2) w2 w2.heap.size 36 rfl)
      have HB2 := hide ((kb_call HB1.out (Nat.le_refl _) hb).alloc (by have := HB1.out.size; have := hb.size; omega) (.cells #[.int .i64 r, .int .i64 c, .slice A2 xs.length z2] 36))
      have hr1 := R1.out.lt
      have hz2 := hb.size
      clear ho hb N1 R1 HB1 CC i0 i1 i2
      go_wp2
      go_loopw [7] (fun iv wr => ∃ (m : Nat) (ys : List Int) (A3 : Option Addr) (n3 c3 : Nat), m ≤ n ∧ iv = .int .i64 m ∧ Hid (doN r c xs cs m = some ys) ∧ Hid (ys.length = n3) ∧ Own wr (w.heap.size + 2) (.slice A3 n3 c3) ys ∧ Hid ((Value.slice A3 n3 c3).ownBlock ≠ some w2.heap.size) ∧
          Box3 wr (w.heap.size + 1) (.int .i64 0) (.int .i64 0) (.slice none 0 0) ∧ Box3 wr w2.heap.size (.int .i64 r) (.int .i64 c) (.slice A3 n3 c3) ∧ Below w.heap.size w wr) (fun iv _ => n - (intOf iv).toNat)
      case atStart => exact ⟨0, xs, A2, xs.length, z2, Nat.zero_le _, rfl, rfl, rfl, O2.out.mono (by omega), (fun e => by have := (hlo _ e).2; omega), R2.out, M2.out, HB2.out⟩
      case round =>
        clear R2 O2 M2 HB2 hlo
        obtain ⟨m, ys, A3, n3, c3, hm, rfl, hdo, hyl, ho, hne, hbr, hbm, hB⟩ := hrel
        have NR := hide hbr
        have NM := hide hbm
        have HO := hide ho
        have HB := hide hB
        have hyn := hyl.out
        have hzr := hB.size
        have hmr := NM.out.lt
        clear hbr hbm ho
        by_cases hlt : m < n
        · have d1 : (m : Int) < (n : Int) := by omega
          have d0 : (0 : Int) ≤ (m : Int) := by omega
          obtain ⟨g, off, rfl, c0, c1, c2, c3'⟩ := HX.out.at4 hlt
          have h0 := kc_call c0 hB
          have h1 := kc_call c1 hB
          have h2 := kc_call c2 hB
          have h3 := kc_call c3' hB
          have hst := doN_some hdo.out
          have hml : ys.length ≤ 1048576 := doN_len hn m ys hdo.out
          obtain ⟨x0, e0⟩ : ∃ x, cs.getD (m * 4) 0 = x := ⟨_, rfl⟩
          obtain ⟨x1, e1⟩ : ∃ x, cs.getD (m * 4 + 1) 0 = x := ⟨_, rfl⟩
          obtain ⟨x2, e2⟩ : ∃ x, cs.getD (m * 4 + 2) 0 = x := ⟨_, rfl⟩
          obtain ⟨x3, e3⟩ : ∃ x, cs.getD (m * 4 + 3) 0 = x := ⟨_, rfl⟩
          rw [e0] at h0 hst
          rw [e1] at h1 hst
          rw [e2] at h2 hst
          rw [e3] at h3 hst
          have hok := fun h => opRes_ok (r := r) (c := c) (xs := ys) (k := x0) (i := x1) (j := x2) (t := x3) h
          have hLl := DoRowOp_len (r := r) (c := c) (xs := ys) (k := x0) (i := x1) (j := x2) (t := x3)
          have cd : ∀ w', Own w' (w.heap.size + 2) (.slice A3 n3 c3) ys → Calls Try.prog 15 #[mv r c (.slice A3 n3 c3), opv x0 x1 x2 x3] w' (RetM w' (opRes r c ys x0 x1 x2 x3)) := fun w' h => by
            rw [← hyn] at h ⊢
            exact specDoOp r c x0 x1 x2 x3 r0 r1 A3 c3 ys w' (Own.sl2 h) hml
          obtain ⟨q, hq⟩ : ∃ q, opRes r c ys x0 x1 x2 x3 = q := ⟨_, rfl⟩
          rw [hq] at hst hok hLl cd
          obtain ⟨R, C, L, K⟩ := q
          simp only at hst hok hLl
          have CD : Hid (∀ w', Own w' (w.heap.size + 2) (.slice A3 n3 c3) ys → Calls Try.prog 15 #[mv r c (.slice A3 n3 c3), opv x0 x1 x2 x3] w' (RetMat w' R C L K)) := cd
          have HST := hide hst
          have HOK := hide hok
          clear c0 c1 c2 c3' e0 e1 e2 e3 hq hst hok cd
          obtain ⟨⟨y0, y1, y2⟩, _⟩ := NM.out
          have KS : Hid (∀ w', Below wr.heap.size wr w' → w'.cell? ⟨w2.heap.size, 0, none⟩ = some (.int .i64 r) ∧ w'.cell? ⟨w2.heap.size, 1, none⟩ = some (.int .i64 c) ∧ w'.cell? ⟨w2.heap.size, 2, none⟩ = some (.slice A3 n3 c3) ∧ w'.cell? ⟨g, off + m * 4, none⟩ = some (.int .i64 x0) ∧ w'.cell? ⟨g, off + m * 4 + 1, none⟩ = some (.int .i64 x1) ∧ w'.cell? ⟨g, off + m * 4 + 2, none⟩ = some (.int .i64 x2) ∧ w'.cell? ⟨g, off + m * 4 + 3, none⟩ = some (.int .i64 x3) ∧ Below wr.heap.size wr w') := fun w' h => ⟨kc_call y0 h, kc_call y1 h, kc_call y2 h, kc_call h0 h, kc_call h1 h, kc_call h2 h, kc_call h3 h, h⟩
          go_wp2
          go_cut [8, 9] (fun s8 s9 wx => ∃ (g1 : Nat) (A0 : Option Addr) (z0 : Nat), s8 = .pointer (some ⟨g1, 0, none⟩) ∧ s9 = .bool K ∧ wr.heap.size ≤ g1 ∧ Box3 wx g1 (.int .i64 R) (.int .i64 C) (.slice A0 L.length z0) ∧ Own wx wr.heap.size (.slice A0 L.length z0) L ∧ Below wr.heap.size wr wx)
          case first =>
            go_region_held3 (fun w' => w'.cell? ⟨w2.heap.size, 0, none⟩ = some (.int .i64 r) ∧ w'.cell? ⟨w2.heap.size, 1, none⟩ = some (.int .i64 c) ∧ w'.cell? ⟨w2.heap.size, 2, none⟩ = some (.slice A3 n3 c3) ∧ w'.cell? ⟨g, off + m * 4, none⟩ = some (.int .i64 x0) ∧ w'.cell? ⟨g, off + m * 4 + 1, none⟩ = some (.int .i64 x1) ∧ w'.cell? ⟨g, off + m * 4 + 2, none⟩ = some (.int .i64 x2) ∧ w'.cell? ⟨g, off + m * 4 + 3, none⟩ = some (.int .i64 x3) ∧ Below wr.heap.size wr w')
              (first
                | (with_reducible exact KS.out _ (Below.drew (Below.refl _ _)))
                | (with_reducible exact KS.out _ (Below.drew (Below.alloc (Below.refl _ _) (Nat.le_refl _) _)))
                | (have hh := (‹_ ∧ _ ∧ _ ∧ _ ∧ _ ∧ _ ∧ _ ∧ Below wr.heap.size wr _›).2.2.2.2.2.2.2
                   first
                   | (with_reducible exact KS.out _ (kb_call hh (Nat.le_refl _) hb))
                   | (with_reducible exact KS.out _ (Below.alloc hh hh.size _))
                   | exact KS.out _ (kb_swap hh (by omega))
                   | exact KS.out _ (((hh.setCell (by dsimp only; omega) _).setCell (by dsimp only; omega) _).setCell (by dsimp only; omega) _)))
              (first
                | (go_at_call 15; have hh := (‹_ ∧ _ ∧ _ ∧ _ ∧ _ ∧ _ ∧ _ ∧ Below wr.heap.size wr _›).2.2.2.2.2.2.2; have hhz := hh.size; (try simp only [World.size_alloc, World.size_setCell, World.size_drew, size_drewN] at hhz); (with_reducible refine (CD.out _ (Own.below HO.out hh)).mono ?_); rintro e w1 ⟨s0, rfl, ho, hb⟩; have hz := hb.size; (try simp only [World.size_alloc, World.size_setCell, World.size_drew, size_drewN] at hz ho); obtain ⟨A0, z0, rfl, _⟩ := Own.sl ho; have hlo := Own.lt ho; have HO3 := hide ho; (first | have GB := hide (Box3.call (Box3.new (x := .int .i64 0) (y := .int .i64 0) (z := .slice none 0 0) _ _ _ rfl) hb) | have GB := hide (Box3.call (Box3.drew (Box3.new (x := .int .i64 0) (y := .int .i64 0) (z := .slice none 0 0) _ _ _ rfl)) hb) | skip); (try obtain ⟨⟨g0, g1, g2⟩, f0, f1, f2⟩ := GB.out); clear ho hh))
            all_goals (have hh := (‹_ ∧ _ ∧ _ ∧ _ ∧ _ ∧ _ ∧ _ ∧ Below wr.heap.size wr _›).2.2.2.2.2.2.2; have HHH := hide hh; clear hh KS)
            all_goals go_wp2_with fail
            all_goals go_meet
            all_goals (refine ⟨_, A0, z0, rfl, rfl, by omega, ?_, ?_, HHH.out⟩)
            all_goals first
              | (with_reducible exact Box3.stored GB.out _ _ _)
              | (with_reducible exact Box3.new _ _ _ rfl)
              | (with_reducible refine Own.mono (Own.alloc HO3.out _) ?_; omega)
              | (with_reducible refine Own.mono (Own.set (Own.set (Own.set HO3.out (own_nl hlo ?_) _) (own_nl hlo ?_) _) (own_nl hlo ?_) _) ?_ <;> first | omega | (dsimp only; omega))
          case rest =>
            obtain ⟨g1, A4, z4, rfl, rfl, hg1, kg, ho, hb⟩ := hcut
            obtain ⟨w3, rfl⟩ : ∃ w3, w3 = wc := ⟨_, rfl⟩
            have hlo := Own.lt ho
            have hz3 := hb.size
            have NM3 := hide (NM.out.call hb)
            have NR3 := hide (NR.out.call hb)
            have NG3 := hide kg
            have HB3 := hide (kb_call HB.out (Nat.le_refl _) hb)
            have O3 := hide ho
            have hm3 := NM3.out.lt
            have hr3 := NR3.out.lt
            clear ho hb kg y0 y1 y2 KS h0 h1 h2 h3
            cases K
            · have hPZ : p = MRes.no := by
                have := HST.out
                rw [if_neg (by decide)] at this
                rw [HPE.out, doN_none this n (by omega), doM]
              obtain ⟨⟨y0, y1, y2⟩, f0, f1, f2⟩ := NM3.out
              have HPZ : Hid (p = MRes.no) := hPZ
              obtain ⟨⟨z0, z1, z2⟩, v0, v1, v2⟩ := NR3.out
              go_wp2_with fail
              obtain ⟨⟨m0, m1, m2⟩, _⟩ := NR3.out.stored (.int .i64 0) (.int .i64 0) (.slice none 0 0)
              exact bodyPost_ret (v := .tuple #[mv (0) (0) (.slice none 0 0), .bool false]) (by first | (simp [results, Try.results24, go_sem, m0, m1, m2]; done) | (simp [results, Try.results24, go_sem]; done)) rfl (by rw [HPZ.out]; exact ⟨_, rfl, Own.nil _ _, ((HB3.out.setCell (Nat.le_succ _) _).setCell (Nat.le_succ _) _).setCell (Nat.le_succ _) _⟩)
            · have HST2 := hide (HST.out.trans (if_pos rfl))
              obtain ⟨rfl, rfl⟩ := HOK.out rfl
              clear HOK HST HPE
              obtain ⟨⟨q0, q1, q2⟩, _⟩ := NG3.out
              obtain ⟨⟨y0, y1, y2⟩, f0, f1, f2⟩ := NM3.out
              go_wp2_with fail
              go_roundw
              case rel =>
                have hwz := HB3.out.size
                have hne4 : ∀ o, (Value.slice A4 L.length z4).ownBlock ≠ some (⟨w2.heap.size, o, none⟩ : Addr).block := fun o e => by have := (hlo _ e).1; dsimp only at this; omega
                refine ⟨m + 1, L, A4, L.length, z4, by omega, by go_num, HST2.out, rfl, ?_, (fun e => hne4 0 e), ?_, ?_, ?_⟩
                · exact Own.mono (Own.set (Own.set (Own.set O3.out (hne4 0) _) (hne4 1) _) (hne4 2) _) (by omega)
                · exact Box3.set (Box3.set (Box3.set NR3.out (by dsimp only; omega) _) (by dsimp only; omega) _) (by dsimp only; omega) _
                · exact Box3.stored NM3.out _ _ _
                · exact ((HB3.out.setCell (by dsimp only; omega) _).setCell (by dsimp only; omega) _).setCell (by dsimp only; omega) _
              case measure => simp [intOf] <;> omega
        · have hke : m = n := by omega
          have d1 : ¬ ((m : Int) < (n : Int)) := by omega
          have HPZ : Hid (p = ⟨r, c, ys, true⟩) := by
            have := hdo.out
            rw [hke] at this
            rw [Hid, HPE.out, this, doM]
          clear HPE hdo hke
          obtain ⟨⟨z0, z1, z2⟩, v0, v1, v2⟩ := NR.out
          obtain ⟨⟨x0, x1, x2⟩, _⟩ := NM.out
          go_wp2_with fail
          obtain ⟨⟨m0, m1, m2⟩, _⟩ := NR.out.stored (.int .i64 r) (.int .i64 c) (.slice A3 n3 c3)
          have HLT := Own.lt HO.out
          exact bodyPost_ret (v := .tuple #[mv (r) (c) (.slice A3 n3 c3), .bool true]) (by first | (simp [results, Try.results24, go_sem, m0, m1, m2]; done) | (simp [results, Try.results24, go_sem]; done)) rfl (by
            rw [HPZ.out]
            refine ⟨_, rfl, ?_, ((HB.out.setCell (Nat.le_succ _) _).setCell (Nat.le_succ _) _).setCell (Nat.le_succ _) _⟩
            have hne : ∀ o, (Value.slice A3 n3 c3).ownBlock ≠ some (⟨w.heap.size + 1, o, none⟩ : Addr).block := fun o e => by have := (HLT _ e).1; dsimp only at this; omega
            exact Own.mono (Own.set (Own.set (Own.set HO.out (hne 0) _) (hne 1) _) (hne 2) _) (by omega))
    · have hPZ : p = MRes.no := by rw [← HPD.out, if_neg (fun e => h40 e.2)]
      have d40 : (40 : Int) < (n : Int) := by omega
      clear HPD hbm
      have HPZ : Hid (p = MRes.no) := hPZ
      obtain ⟨⟨z0, z1, z2⟩, v0, v1, v2⟩ := R1.out
      go_wp2_with fail
      obtain ⟨⟨m0, m1, m2⟩, _⟩ := R1.out.stored (.int .i64 0) (.int .i64 0) (.slice none 0 0)
      exact bodyPost_ret (v := .tuple #[mv (0) (0) (.slice none 0 0), .bool false]) (by first | (simp [results, Try.results24, go_sem, m0, m1, m2]; done) | (simp [results, Try.results24, go_sem]; done)) rfl (by rw [HPZ.out]; exact ⟨_, rfl, Own.nil _ _, ((HB1.out.setCell (Nat.le_succ _) _).setCell (Nat.le_succ _) _).setCell (Nat.le_succ _) _⟩)
  · have hPZ : p = MRes.no := by rw [← HPD.out, if_neg (fun e => by rw [hbm] at e; cases e.1)]
    rw [hbm]
    clear HPD hbm
    have HPZ : Hid (p = MRes.no) := hPZ
    obtain ⟨⟨z0, z1, z2⟩, v0, v1, v2⟩ := R1.out
    go_wp2_with fail
    obtain ⟨⟨m0, m1, m2⟩, _⟩ := R1.out.stored (.int .i64 0) (.int .i64 0) (.slice none 0 0)
    exact bodyPost_ret (v := .tuple #[mv (0) (0) (.slice none 0 0), .bool false]) (by first | (simp [results, Try.results24, go_sem, m0, m1, m2]; done) | (simp [results, Try.results24, go_sem]; done)) rfl (by rw [HPZ.out]; exact ⟨_, rfl, Own.nil _ _, ((HB1.out.setCell (Nat.le_succ _) _).setCell (Nat.le_succ _) _).setCell (Nat.le_succ _) _⟩)
end Go.Proofs.Ythbmmoajfghjbaa
