/- The walk of the reference's DeterminantBySteps. -/
import Derived.Test.YtchlaebkigmfgaaStepW
import Derived.Test.YtchlaebkigmfgaaDoSw
import Derived.Test.YtchlaebkigmfgaaFitW
namespace Go.Proofs.Ytchlaebkigmfgaa
open Go.RowKit
set_option linter.unusedSimpArgs false
set_option linter.unusedVariables false

/-- A cell as an index reads it. -/
theorem cellM {w : World} {lo g cap n N a b : Nat} {M : Det.Mat} {x : Int} (hN : n * n = N) (h6 : n ≤ 6) (ha : a < n) (hb : b < n) (h : Own w lo (.slice (some ⟨g, 0, none⟩) N cap) (tab N (mf n M))) (hx : M a b = x) :
    ∃ d : Nat, (a : Int) * n + b = (d : Int) ∧ IntKind.i64.wrap ((a : Int) * n) = (a : Int) * n ∧ IntKind.i64.wrap (d : Int) = (d : Int) ∧ (0 : Int) ≤ (d : Int) ∧ (d : Int) < (N : Int) ∧ w.cell? ⟨g, d, none⟩ = some (.int .i64 x) ∧ w.frozen? ⟨g, d, none⟩ = false ∧ d = a * n + b := by
  obtain ⟨i1, i2, i3, i4⟩ := ix_facts hN h6 ha hb
  have h3 : n * n ≤ 36 := Nat.mul_le_mul h6 h6
  have h5 := own_cell h i4
  rw [mf, ix_div hb, ix_mod hb, hx] at h5
  exact ⟨a * n + b, by push_cast; rfl, IntWalk.i64_in _ (by omega), IntWalk.i64_in _ (by omega), by omega, by omega, h5, own_free h _, rfl⟩
theorem specSwapM (n p t g cap lo N : Nat) (M : Det.Mat) (w : World) (hN : n * n = N) (h6 : n ≤ 6) (hp : p < n) (ht : t < n) (hpt : p ≠ t) (h : Own w lo (.slice (some ⟨g, 0, none⟩) N cap) (tab N (mf n M))) :
    Calls Try.prog 49 #[mv n n (.slice (some ⟨g, 0, none⟩) N cap), opv 0 (p : Int) (t : Int) 0] w fun e w' => e = .returned (.tuple #[]) ∧ Own w' lo (.slice (some ⟨g, 0, none⟩) N cap) (tab N (mf n (Det.Alt.swap M p t))) ∧ w.grownBy w' (some g) := by
  subst hN
  have := specDoSwap n n p t g cap lo (tab (n * n) (mf n M)) w h (tab_length _ _) (by omega) (by omega) hp ht hpt
  rwa [opNew_swap hp ht hpt] at this
set_option maxRecDepth 100000 in
set_option maxHeartbeats 16000000 in
theorem specSteps_yes (n : Nat) (A : Option Addr) (cap : Nat) (xs : List Int) (w : World) (hA : Sl w A xs.length cap xs) (h6 : n ≤ 6) (hl : xs.length = n * n) (hx : xs.all isNum = true) (hn : xs.length ≤ 1048576) (hq : isSq n n xs = true) :
    Calls Try.prog 18 #[mv n n (.slice A xs.length cap)] w fun e w' => e = .returned (.tuple #[.int .i64 (stepsL n xs).1, .bool (stepsL n xs).2]) ∧ Below w.heap.size w w' := by
  have HA := hide hA; clear hA
  have hM0 : ∀ a b, a < n → b < n → isNum (toM n xs a b) = true := fun a b ha hb => all_getD hx (by rw [hl]; exact ix_lt ha hb)
  have hXS : xs = tab (n * n) (mf n (toM n xs)) := by rw [← ofM_mf, ofM_toM hl]
  have hR0 : stepsR n (n - 0) 0 (toM n xs) 1 1 = stepsL n xs := rfl
  generalize toM n xs = M0 at *
  obtain ⟨N, hNN⟩ : ∃ N, n * n = N := ⟨_, rfl⟩
  rw [hNN] at hXS hl
  have hN36 : N ≤ 36 := by rw [← hNN]; exact Nat.mul_le_mul h6 h6
  have HN := hide hNN
  have HM0 := hide hM0
  have HXS := hide hXS
  have HR0 := hide hR0
  have HL := hide hl
  have HQ := hide hq
  clear hNN hM0 hXS hR0 hl hx hq
  generalize stepsL n xs = R at *
  go_enter Try.func18, Try.ntmps18
  have eq1 := HQ.out
  go_wp2_with fail
  refine (specIsSquare n n A cap xs _ (SlI.below HA.out.2.2.2.2 (by repeat' (first | exact Below.refl _ _ | (refine Below.alloc ?_ ?_ _) | (refine Below.setCell ?_ ?_ _) | (refine Below.drew ?_) | (refine below_drewN ?_ _) | (refine Below.trans ?_ (Below.mono (by assumption) ?_)) | omega | (simp only [World.size_alloc, World.size_setCell, World.size_drew, size_drewN]; omega)))) (by omega)).mono ?_; rintro e w1 ⟨rfl, hb⟩; obtain ⟨hc, hf⟩ := bcell hb; have hz := hb.size; (try simp only [World.size_alloc, World.size_setCell, World.size_drew, size_drewN] at hz); (first | have hs := up3 hz | have hs := up2 hz | have hs := up1 hz | have hs := up0 hz); (try have q10 := hs _ q9); (try have q9 := hs _ q8); (try have q8 := hs _ q7); (try have q7 := hs _ q6); (try have q6 := hs _ q5); (try have q5 := hs _ q4); (try have q4 := hs _ q3); (try have q3 := hs _ q2); (try have q2 := hs _ q1); (try have p7 := hs _ p6); (try have p6 := hs _ p5); (try have p5 := hs _ p4); (try have p4 := hs _ p3); (try have p3 := hs _ p2); (try have p2 := hs _ p1); (try have q1 := new1 hz); (try have p1 := new2 hz); (try have r1 := new3 hz); have hbq := hb
  go_wp2_with fail
  refine (specCopy n n A cap xs _ (HA.out.below (by repeat' (first | exact Below.refl _ _ | (refine Below.alloc ?_ ?_ _) | (refine Below.setCell ?_ ?_ _) | (refine Below.drew ?_) | (refine below_drewN ?_ _) | (refine Below.trans ?_ (Below.mono (by assumption) ?_)) | omega | (simp only [World.size_alloc, World.size_setCell, World.size_drew, size_drewN]; omega)))) (by omega)).mono ?_; rintro e w2 ⟨s, rfl, ho, hb⟩
  obtain ⟨A2, z2, rfl, hs2⟩ := Own.full ho
  have hcap := hs2.2.1
  have hcm := hs2.2.2.1
  have p2 : Box3 w2 w.heap.size (.int .i64 n) (.int .i64 n) (.slice A xs.length cap) := (show Box3 w1 w.heap.size (.int .i64 n) (.int .i64 n) (.slice A xs.length cap) from (by repeat' (first | with_reducible assumption | (with_reducible refine Box3.set ?_ ?_ _) | (with_reducible refine Box3.drew ?_) | (with_reducible refine Box3.drewN ?_ _) | (with_reducible exact Box3.new _ _ _ (by first | rfl | (simp only [World.size_alloc]; done) | (simp only [World.size_alloc]; omega))) | (with_reducible refine Box3.alloc ?_ _) | (with_reducible refine Box3.call ?_ (by assumption)) | (with_reducible refine Box3.grown ?_ (by assumption) (by simp; omega)) | omega | (dsimp only; omega) | (simp only [World.size_alloc, World.size_setCell, World.size_drew, size_drewN]; omega)))).call hb
  have HB2 : Hid (Below w.heap.size w w2) := (show Below w.heap.size w w1 from Below.trans ((Below.refl _ _).alloc (Nat.le_refl _) _) (hbq.mono (by simp))).trans (hb.mono (by omega))
  have hz0 := p2.lt
  have hz2 := hb.size
  have HO := hide ho
  clear hb hbq ho hs2 eq1 hc hf hs hz
  obtain ⟨⟨a0, a1, a2⟩, _⟩ := p2
  rw [HL.out] at hcap HO ⊢
  rw [HXS.out] at HO
  clear HXS
  by_cases h0 : n = 0
  · subst h0
    have HR : Hid (R = (1, true)) := by have := HR0.out; rw [show (0 : Nat) - 0 = 0 from rfl, stepsR] at this; rw [Hid, ← this]; rfl
    go_wp2_with fail
    refine wp_loop_rounds 1 ?_
    rw [rounds_succ]
    go_wp2
    go_returns
    exact ⟨by rw [HR.out]; rfl, HB2.out.alloc HB2.out.size _⟩
  · have hNp : 0 < N := by rw [← HN.out]; exact Nat.mul_pos (by omega) (by omega)
    obtain ⟨g, rfl, hg1, hg2⟩ := own_some HO.out (by rw [tab_length]; exact hNp)
    have HG := hide (Box3.new (x := .int .i64 n) (y := .int .i64 n) (z := .slice (some ⟨g, 0, none⟩) N z2) w2 w2.heap.size 28 rfl)
    have HO1 := hide (HO.out.alloc (.cells #[.int .i64 n, .int .i64 n, .slice (some ⟨g, 0, none⟩) N z2] 28))
    have HB3 := hide (HB2.out.alloc HB2.out.size (.cells #[.int .i64 n, .int .i64 n, .slice (some ⟨g, 0, none⟩) N z2] 28))
    clear HO HB2
    go_wp2_with fail
    go_loopw [6, 7, 8] (fun bv sv tv wr => ∃ (t : Nat) (M : Det.Mat) (sg bf : Int), t ≤ n ∧ tv = .int .i64 t ∧ sv = .int .i64 sg ∧ bv = .int .i64 bf ∧ (-1 ≤ sg ∧ sg ≤ 1) ∧ (-400000000 ≤ bf ∧ bf ≤ 400000000) ∧ Hid (bf ≠ 0) ∧ Hid (∀ a b, a < n → b < n → isNum (M a b) = true) ∧ Hid (stepsR n (n - t) t M sg bf = R) ∧
        Own wr w1.heap.size (.slice (some ⟨g, 0, none⟩) N z2) (tab N (mf n M)) ∧ Box3 wr w2.heap.size (.int .i64 n) (.int .i64 n) (.slice (some ⟨g, 0, none⟩) N z2) ∧ Below w.heap.size w wr) (fun _ _ tv _ => n - (intOf tv).toNat)
    case atStart => exact ⟨0, M0, 1, 1, Nat.zero_le _, rfl, rfl, rfl, by omega, by omega, by rw [Hid]; decide, HM0, HR0, HO1.out, HG.out, HB3.out⟩
    case round =>
      clear HO1 HG HB3 HR0 HM0 a0 a1 a2
      obtain ⟨t, M, sg, bf, ht, rfl, rfl, rfl, hsg, hbf, hb0, hM, hR, ho, bx, hB⟩ := hrel
      obtain ⟨wo, rfl⟩ : ∃ wo : World, wo = wr := ⟨_, rfl⟩
      have HO := hide ho
      have BX := hide bx
      have HB := hide hB
      clear ho bx hB
      by_cases hlt : t < n
      · go_wp2_with fail
        obtain ⟨⟨a0, a1, a2⟩, _⟩ := BX.out
        go_loop [9] (fun pv => ∃ p : Nat, t ≤ p ∧ p ≤ n ∧ pv = .int .i64 p ∧ Hid (pivF M t (n - p) p = pivO n M t)) (fun pv => n - (intOf pv).toNat)
        case atStart => exact ⟨t, Nat.le_refl _, ht, rfl, rfl⟩
        case round =>
          obtain ⟨p, hp1, hp2, rfl, hpv⟩ := hrel
          by_cases hpn : p < n
          · obtain ⟨x, hx⟩ : ∃ x, M p t = x := ⟨_, rfl⟩
            have hxn := isNum_t (hM.out p t hpn hlt)
            rw [hx] at hxn
            obtain ⟨d, q1, q2, q3, q4, q5, q6, _, q8⟩ := cellM HN.out h6 hpn hlt HO.out hx
            subst q8
            have q4 : (0 : Int) ≤ (p : Int) * n + t := by omega
            have q5 : (p : Int) * n + t < (N : Int) := by omega
            have q9 : (0 : Int) ≤ (p : Int) * n := Int.mul_nonneg (by omega) (by omega)
            clear q1 q2 q3
            have HX := hide hx
            clear hx
            by_cases hx0 : x = 0
            · have hxb : (x == 0) = true := by simpa using hx0
              have hnx : Hid (pivF M t (n - (p + 1)) (p + 1) = pivO n M t) := (pivF_next hpn (HX.out.trans hx0)).trans hpv.out
              clear hx0
              go_wp2_with fail
              go_round
              case rel => exact ⟨p + 1, by omega, by omega, by go_num, hnx⟩
              case measure => simp [intOf]; omega
            · have hxb : (x == 0) = false := by simpa using hx0
              have HX0 := hide hx0
              have hpo : Hid (pivO n M t = some p) := by rw [Hid, ← hpv.out]; exact pivF_here hpn (by rw [HX.out]; exact hx0)
              have epn : ((p : Int) == (n : Int)) = false := by simp; omega
              have HO2 := HO
              have BX2 := BX
              have HB2 := HB
              clear hx0 hpv HO BX HB
              obtain ⟨M1, hM1⟩ : ∃ M1, M1 = if p = t then M else Det.Alt.swap M p t := ⟨_, rfl⟩
              have hsw := swap_num hM.out hpn hlt
              have hpv1 : M1 t t = x := by rw [hM1, swap_piv, HX.out]
              rw [← hM1] at hsw
              have HM1 := hide hM1
              have HSW := hide hsw
              have HPV := hide hpv1
              clear hM1 hsw hpv1
              obtain ⟨bq, hbq⟩ : ∃ bq : Bool, ((p : Int) != (t : Int)) = bq := ⟨_, rfl⟩
              go_upto_if 48 with (fail)
              have hbq2 := hide hbq
              clear hbq a0 a1 a2 q4 q5 q6 q9
              go_cut [7] (fun sv wx => ∃ sg' : Int, sv = .int .i64 sg' ∧ Hid (sg' = if p = t then sg else -sg) ∧ (-1 ≤ sg' ∧ sg' ≤ 1) ∧ Own wx w1.heap.size (.slice (some ⟨g, 0, none⟩) N z2) (tab N (mf n M1)) ∧ Box3 wx w2.heap.size (.int .i64 n) (.int .i64 n) (.slice (some ⟨g, 0, none⟩) N z2) ∧ Below w.heap.size w wx)
              case first =>
                cases bq
                · have hpt : p = t := by have := hbq2.out; simp at this; omega
                  have HE : Hid (M1 = M) := by rw [Hid, HM1.out, if_pos hpt]
                  have HS : Hid (sg = if p = t then sg else -sg) := by rw [Hid, if_pos hpt]
                  clear hpt
                  go_wp2_with fail
                  go_meet
                  exact ⟨sg, rfl, HS, hsg, by rw [HE.out]; exact HO2.out, BX2.out, HB2.out⟩
                · have hpt : p ≠ t := by have := hbq2.out; simp at this; omega
                  have HE : Hid (M1 = Det.Alt.swap M p t) := by rw [Hid, HM1.out, if_neg hpt]
                  have HS : Hid (-sg = if p = t then sg else -sg) := by rw [Hid, if_neg hpt]
                  have HPT := hide hpt
                  clear hpt
                  obtain ⟨⟨a0, a1, a2⟩, _⟩ := BX2.out
                  go_wp2_with fail
                  refine (specSwapM n p t g z2 w1.heap.size N M _ HN.out h6 hpn hlt HPT.out HO2.out).mono ?_; rintro e w4 ⟨rfl, ho, hg⟩
                  have HO3 := hide ho
                  have BX3 := hide (BX2.out.grown hg (by simp; omega))
                  have HB3 := hide (HB2.out.grown hg HB2.out.size (fun j hj => by cases hj; omega))
                  clear ho hg a0 a1 a2
                  go_wp2_with fail
                  go_meet
                  exact ⟨-sg, rfl, HS, by omega, by rw [HE.out]; exact HO3.out, BX3.out, HB3.out⟩
              case rest =>
                obtain ⟨sg', rfl, hsg', hsgb, ho, bx, hB⟩ := hcut
                have HO := hide ho
                have BX := hide bx
                have HB := hide hB
                have HSG := hide hsg'.out
                clear ho bx hB HO2 BX2 HB2 hsg' hsg
                go_wp2_with fail
                go_loopw [10] (fun iv wr => ∃ i : Nat, t + 1 ≤ i ∧ i ≤ n ∧ iv = .int .i64 i ∧ Hid (∀ a b, t < a → a < i → t < b → b < n → isNum (stepV t bf M1 a b) = true) ∧ Own wr w1.heap.size (.slice (some ⟨g, 0, none⟩) N z2) (tab N (mf n (stTo t bf M1 i (t + 1)))) ∧ Box3 wr w2.heap.size (.int .i64 n) (.int .i64 n) (.slice (some ⟨g, 0, none⟩) N z2) ∧ Below w.heap.size w wr) (fun iv _ => n - (intOf iv).toNat)
                case atStart => exact ⟨t + 1, Nat.le_refl _, by omega, by go_num, fun a b h1 h2 => by omega, by rw [stTo_start t bf M1 (t + 1) (Nat.le_refl _)]; exact HO.out, BX.out, HB.out⟩
                case round =>
                  clear HO BX HB
                  obtain ⟨i, hi1, hi2, rfl, hok, ho, bx, hB⟩ := hrel
                  obtain ⟨wi, rfl⟩ : ∃ wi : World, wi = wr := ⟨_, rfl⟩
                  have HO := hide ho
                  have BX := hide bx
                  have HB := hide hB
                  clear ho bx hB
                  by_cases hin : i < n
                  · go_wp2_with fail
                    go_loopw [11] (fun jv wr => ∃ j : Nat, t + 1 ≤ j ∧ j ≤ n ∧ jv = .int .i64 j ∧ Hid (∀ b, t < b → b < j → isNum (stepV t bf M1 i b) = true) ∧ Own wr w1.heap.size (.slice (some ⟨g, 0, none⟩) N z2) (tab N (mf n (stTo t bf M1 i j))) ∧ Box3 wr w2.heap.size (.int .i64 n) (.int .i64 n) (.slice (some ⟨g, 0, none⟩) N z2) ∧ Below w.heap.size w wr) (fun jv _ => n - (intOf jv).toNat)
                    case atStart => exact ⟨t + 1, Nat.le_refl _, by omega, by go_num, fun b h1 h2 => by omega, HO.out, BX.out, HB.out⟩
                    case round =>
                      clear HO BX HB
                      obtain ⟨j, hj1, hj2, rfl, hokj, ho, bx, hB⟩ := hrel
                      obtain ⟨wj, rfl⟩ : ∃ wj : World, wj = wr := ⟨_, rfl⟩
                      have HO := hide ho
                      have BX := hide bx
                      have HB := hide hB
                      clear ho bx hB
                      by_cases hjn : j < n
                      · obtain ⟨v1, v2, v3, v4⟩ := step_in (bf := bf) HSW.out hlt hin hjn
                        have hst := stTo_set (n := n) (t := t) (i := i) (j := j) (before := bf) (M := M1) hin hjn (by omega) (by omega)
                        rw [ofM_mf, ofM_mf, HN.out] at hst
                        obtain ⟨d1, r1, r2, r3, r4, r5, r6, r7, r8⟩ := cellM HN.out h6 hin hjn HO.out (stTo_at (t := t) (before := bf) (M := M1))
                        obtain ⟨d2, s1, s2, s3, s4, s5, s6, -, -⟩ := cellM HN.out h6 hlt hlt HO.out (stTo_top (t := t) (i := i) (j := j) (before := bf) (M := M1))
                        obtain ⟨d3, u1, u2, u3, u4, u5, u6, -, -⟩ := cellM HN.out h6 hin hlt HO.out (stTo_col (t := t) (i := i) (j := j) (before := bf) (M := M1))
                        obtain ⟨d4, v1', v2', v3', v4', v5', v6', -, -⟩ := cellM HN.out h6 hlt hjn HO.out (stTo_top (t := t) (i := i) (j := j) (before := bf) (M := M1))
                        have HD1 := hide r8
                        clear r8
                        have hv : stepV t bf M1 i j = (M1 i j * M1 t t - M1 i t * M1 t j).tdiv bf := rfl
                        obtain ⟨x1, e1⟩ : ∃ x, M1 i j = x := ⟨_, rfl⟩
                        obtain ⟨x2, e2⟩ : ∃ x, M1 t t = x := ⟨_, rfl⟩
                        obtain ⟨x3, e3⟩ : ∃ x, M1 i t = x := ⟨_, rfl⟩
                        obtain ⟨x4, e4⟩ : ∃ x, M1 t j = x := ⟨_, rfl⟩
                        rw [e1] at v1 v2 v4 r6 hv
                        rw [e2] at v2 v4 s6 hv
                        rw [e3] at v3 v4 u6 hv
                        rw [e4] at v3 v4 v6' hv
                        obtain ⟨y, hy⟩ : ∃ y, (x1 * x2 - x3 * x4).tdiv bf = y := ⟨_, rfl⟩
                        have hvy := hv.trans hy
                        rw [hvy] at hst
                        have HST := hide hst
                        have HVY := hide hvy
                        have hbf0 : ¬ bf = 0 := hb0.out
                        have k1 : IntKind.i64.wrap (x1 * x2) = x1 * x2 := IntWalk.i64_in _ (by omega)
                        have k2 : IntKind.i64.wrap (x3 * x4) = x3 * x4 := IntWalk.i64_in _ (by omega)
                        have k3 : IntKind.i64.wrap (x1 * x2 - x3 * x4) = x1 * x2 - x3 * x4 := IntWalk.i64_in _ (by omega)
                        have k4 : IntKind.i64.wrap ((x1 * x2 - x3 * x4).tdiv bf) = y := by rw [← hy]; exact IntWalk.i64_in _ (by omega)
                        rw [hy] at v4
                        clear hst hv hvy hy e1 e2 e3 e4 v1 v2 v3
                        obtain ⟨⟨a0, a1, a2⟩, _⟩ := BX.out
                        go_wp2_with fail
                        go_quiet ((go_at_call 50; exact Calls.quiet_of_same ((specFit _ _).mono fun _ _ ⟨h1, h2⟩ => ⟨h1, h2.symm⟩)))
                        rcases Bool.eq_false_or_eq_true (isNum y) with hy | hy
                        · have hokj' : Hid (∀ b, t < b → b < j + 1 → isNum (stepV t bf M1 i b) = true) := fun b h1 h2 => by
                            by_cases e : b = j
                            · subst e; rw [HVY.out]; exact hy
                            · exact hokj.out b h1 (by omega)
                          have hfy : fitN y = y := by rw [fitN, if_pos hy]
                          have hyn := isNum_t hy
                          have hyb : (y == -4611686018427387904) = false := by simp; omega
                          have hd1 : d1 = i * n + j := HD1.out
                          clear hd1
                          go_wp2_with fail
                          go_roundw
                          case rel => 
                            have hso := fun nq => own_store (k := d1) (v := y) (Own.drewN HO.out nq) (by rw [HD1.out]; exact HST.out)
                            exact ⟨j + 1, by omega, by omega, by go_num, hokj', (hso _).1, (Box3.drewN BX.out _).grown (hso _).2 (by simp; omega), (below_drewN HB.out _).grown (hso _).2 (below_drewN HB.out _).size (fun j hj => by cases hj; omega)⟩
                          case measure => simp [intOf]; omega
                        · have hRb : Hid (R = (0, false)) := by
                            have h := hR.out
                            rw [show n - t = (n - t - 1) + 1 from by omega, stepsR_bad hpo.out HM1.out (fun hh => by have h7 := hh i j (by omega) hin (by omega) hjn; rw [HVY.out, hy] at h7; cases h7)] at h
                            exact h.symm
                          have hfy : fitN y = -4611686018427387904 := by rw [fitN, if_neg (by simp [hy])]; rfl
                          go_wp2_with fail
                          go_returns
                          exact ⟨by rw [hRb.out]; rfl, below_drewN HB.out _⟩
                      · have hjj : j = n := by omega
                        have HO8 : Hid (Own wj w1.heap.size (.slice (some ⟨g, 0, none⟩) N z2) (tab N (mf n (stTo t bf M1 (i + 1) (t + 1))))) := by
                          have h1 := HO.out
                          have h2 : tab (n * n) (mf n (stTo t bf M1 i n)) = tab (n * n) (mf n (stTo t bf M1 (i + 1) (t + 1))) := mf_congr fun a b ha hb => stTo_row hb
                          rw [HN.out] at h2
                          rw [hjj, h2] at h1
                          exact h1
                        have hok' : Hid (∀ a b, t < a → a < i + 1 → t < b → b < n → isNum (stepV t bf M1 a b) = true) := fun a b h1 h2 h3 h4 => by
                          by_cases e : a = i
                          · subst e; exact hokj.out b h3 (by omega)
                          · exact hok.out a b h1 (by omega) h3 h4
                        clear HO
                        subst hjj
                        go_wp2_with fail
                        go_roundw
                        case rel => exact ⟨i + 1, by omega, by omega, by go_num, hok', HO8.out, BX.out, HB.out⟩
                        case measure => simp [intOf]; omega
                  · have hii : i = n := by omega
                    have hso : Hid (stepOk n t bf M1) := fun a b h1 h2 h3 h4 => hok.out a b h1 (by omega) h3 h4
                    have HO8 : Hid (Own wi w1.heap.size (.slice (some ⟨g, 0, none⟩) N z2) (tab N (mf n (stepM t bf M1)))) := by
                      have h1 := HO.out
                      have h2 : tab (n * n) (mf n (stTo t bf M1 n (t + 1))) = tab (n * n) (mf n (stepM t bf M1)) := mf_congr fun a b ha hb => stTo_end ha _
                      rw [HN.out] at h2
                      rw [hii, h2] at h1
                      exact h1
                    have hRn : Hid (stepsR n (n - (t + 1)) (t + 1) (stepM t bf M1) sg' x = R) := by
                      have h := hR.out
                      rw [show n - t = (n - (t + 1)) + 1 from by omega, stepsR_go hpo.out HM1.out hso.out, ← HSG.out, HPV.out] at h
                      exact h
                    have hMn : Hid (∀ a b, a < n → b < n → isNum (stepM t bf M1 a b) = true) := step_num HSW.out hso.out
                    obtain ⟨d, q1, q2, q3, q4, q5, q6, -, -⟩ := cellM HN.out h6 hlt hlt HO8.out (x := x) (by rw [← HPV.out, stepM, if_neg (by omega)])
                    clear HO hii
                    have einn : decide ((i : Int) < (n : Int)) = false := decide_eq_false (by omega)
                    obtain ⟨⟨a0, a1, a2⟩, _⟩ := BX.out
                    go_wp2_with fail
                    go_roundw
                    case rel => exact ⟨t + 1, stepM t bf M1, sg', x, by omega, by go_num, rfl, rfl, hsgb, hxn, HX0, hMn, hRn, HO8.out, BX.out, HB.out⟩
                    case measure => simp [intOf]; omega
          · have hpp : p = n := by omega
            have epn : ((p : Int) == (n : Int)) = true := by simp; omega
            have hpo : Hid (pivO n M t = none) := by have h := hpv.out; rw [hpp, pivF_end] at h; exact h.symm
            have hRn : Hid (R = (0, true)) := by
              have h := hR.out
              rw [show n - t = (n - t - 1) + 1 from by omega, stepsR_none hpo.out] at h
              exact h.symm
            clear hpp
            go_wp2_with fail
            go_returns
            exact ⟨by rw [hRn.out]; rfl, HB.out⟩
      · have htn : t = n := by omega
        have HR : Hid (R = (sg * bf, true)) := by have h := hR.out; rw [htn, Nat.sub_self, stepsR] at h; exact h.symm
        have hsb : -400000000 ≤ sg * bf ∧ sg * bf ≤ 400000000 := by
          have : sg = -1 ∨ sg = 0 ∨ sg = 1 := by omega
          rcases this with rfl | rfl | rfl <;> omega
        have k1 : IntKind.i64.wrap (sg * bf) = sg * bf := IntWalk.i64_in _ (by omega)
        clear hsb
        go_wp2_with fail
        go_returns
        exact ⟨by rw [HR.out]; rfl, HB.out⟩
end Go.Proofs.Ytchlaebkigmfgaa
