/- The walk of the program's DeterminantBySteps. -/
import Derived.Test.YtchlaebkigmfgaaDetF
import Derived.Test.YtchlaebkigmfgaaStepL
import Derived.Test.YtchlaebkigmfgaaCopyW
import Derived.Test.YtchlaebkigmfgaaOpW
import Derived.Deep.CutBlock
namespace Go.Proofs.Ytchlaebkigmfgaa
open Go.RowKit
set_option linter.unusedSimpArgs false
set_option linter.unusedVariables false

def mf (n : Nat) (M : Det.Mat) : Nat → Int := fun p => M (p / n) (p % n)
theorem ofM_mf (n : Nat) (M : Det.Mat) : ofM n n M = tab (n * n) (mf n M) := rfl
theorem mf_getD {n i j : Nat} {M : Det.Mat} (hi : i < n) (hj : j < n) : (tab (n * n) (mf n M)).getD (i * n + j) 0 = M i j := by
  rw [tab_getD _ (ix_lt hi hj), mf, ix_div hj, ix_mod hj]
theorem mf_congr {n : Nat} {M M' : Det.Mat} (h : ∀ i j, i < n → j < n → M i j = M' i j) : tab (n * n) (mf n M) = tab (n * n) (mf n M') := ofM_congr h
noncomputable def stepRes (r c : Int) (xs : List Int) : Int × Bool := if isSq r c xs = true then stepsL r.toNat xs else (0, false)
theorem ix_facts {n i j N : Nat} (hN : n * n = N) (h6 : n ≤ 6) (hi : i < n) (hj : j < n) : Hid ((i : Int) * n = ((i * n + j : Nat) : Int) - j) ∧ 0 ≤ (i : Int) * n ∧ (i : Int) * n ≤ 1048576 ∧ i * n + j < N := by
  have h1 : Hid ((i : Int) * n = ((i * n + j : Nat) : Int) - j) := by rw [Hid]; push_cast; omega
  have h2 : i * n + j < n * n := ix_lt hi hj
  have h3 : n * n ≤ 36 := Nat.mul_le_mul h6 h6
  have := h1.out
  exact ⟨h1, Int.mul_nonneg (by omega) (by omega), by omega, by omega⟩
theorem implAtM (n i j g cap lo N : Nat) (M : Det.Mat) (x : Int) (w : World) (hx : M i j = x) (hN : n * n = N) (h6 : n ≤ 6) (hi : i < n) (hj : j < n) (h : Own w lo (.slice (some ⟨g, 0, none⟩) N cap) (tab N (mf n M))) :
    Calls Try.prog 52 #[mv n n (.slice (some ⟨g, 0, none⟩) N cap), .int .i64 (i : Int), .int .i64 (j : Int)] w fun e w' => e = .returned (.int .i64 x) ∧ Below w.heap.size w w' := by
  obtain ⟨i1, i2, i3, i4⟩ := ix_facts hN h6 hi hj
  have h3 : n * n ≤ 36 := Nat.mul_le_mul h6 h6
  have hs := (Own.reads h).2
  have := implAt n n i j (i * n + j) x (some ⟨g, 0, none⟩) cap (tab N (mf n M)) w hs (by rw [tab_length]; omega) i1 (by rw [tab_length]; exact i4) (by rw [Hid, ← hN, mf_getD hi hj, hx]) i2 i3 (by omega) (by omega)
  rwa [tab_length] at this
theorem implSetM (n i j g cap lo N : Nat) (M M' : Det.Mat) (x : Int) (w : World) (hx : (tab N (mf n M)).set (i * n + j) x = tab N (mf n M')) (hN : n * n = N) (h6 : n ≤ 6) (hi : i < n) (hj : j < n) (h : Own w lo (.slice (some ⟨g, 0, none⟩) N cap) (tab N (mf n M))) :
    Calls Try.prog 55 #[mv n n (.slice (some ⟨g, 0, none⟩) N cap), .int .i64 (i : Int), .int .i64 (j : Int), .int .i64 x] w fun e w' => e = .returned (.tuple #[]) ∧ Own w' lo (.slice (some ⟨g, 0, none⟩) N cap) (tab N (mf n M')) ∧ w.grownBy w' (some g) := by
  obtain ⟨i1, i2, i3, i4⟩ := ix_facts hN h6 hi hj
  have h3 : n * n ≤ 36 := Nat.mul_le_mul h6 h6
  exact implSetTab n n i j x (i * n + j) g cap N lo (mf n M) (mf n M') w h (by omega) i1 i4 hx i2 i3 (by omega) (by omega)
theorem opNew_swap {n p t : Nat} {M : Det.Mat} (hp : p < n) (ht : t < n) (h : p ≠ t) : opL n n 0 p t 0 (tab (n * n) (mf n M)) = tab (n * n) (mf n (Det.Alt.swap M p t)) := by
  rw [opL, ofM_mf]
  refine mf_congr fun a b ha hb => ?_
  simp only [opNew, if_true, toM, Det.Alt.swap, Det.setRow]
  by_cases h1 : a = p
  · subst h1
    rw [if_pos rfl, if_neg h, if_pos rfl, mf_getD ht hb]
  · rw [if_neg h1]
    by_cases h2 : a = t
    · subst h2; rw [if_pos rfl, if_pos rfl, mf_getD hp hb]
    · rw [if_neg h2, if_neg h2, if_neg h1, mf_getD ha hb]
theorem implSwapM (n p t g cap lo N : Nat) (M : Det.Mat) (w : World) (hN : n * n = N) (h6 : n ≤ 6) (hp : p < n) (ht : t < n) (hpt : p ≠ t) (h : Own w lo (.slice (some ⟨g, 0, none⟩) N cap) (tab N (mf n M))) (hc : N ≤ cap) (hm : cap ≤ maxLen) :
    Calls Try.prog 53 #[mv n n (.slice (some ⟨g, 0, none⟩) N cap), opv 0 (p : Int) (t : Int) 0] w fun e w' => e = .returned (.bool true) ∧ Own w' lo (.slice (some ⟨g, 0, none⟩) N cap) (tab N (mf n (Det.Alt.swap M p t))) ∧ w.grownBy w' (some g) := by
  subst hN
  have := implRowOp_swap n n p t 0 g cap lo (tab (n * n) (mf n M)) w h (tab_length _ _) (by omega) (by omega) (by omega) hc hm hp ht hpt
  rwa [opNew_swap hp ht hpt] at this
/-- What a step asks of the numbers. -/
theorem step_in {n t i j : Nat} {bf : Int} {M : Det.Mat} (hM : ∀ a b, a < n → b < n → isNum (M a b) = true) (ht : t < n) (hi : i < n) (hj : j < n) :
    (-400000000 ≤ M i j ∧ M i j ≤ 400000000) ∧ (-160000000000000000 ≤ M i j * M t t ∧ M i j * M t t ≤ 160000000000000000) ∧ (-160000000000000000 ≤ M i t * M t j ∧ M i t * M t j ≤ 160000000000000000) ∧
    (-320000000000000000 ≤ (M i j * M t t - M i t * M t j).tdiv bf ∧ (M i j * M t t - M i t * M t j).tdiv bf ≤ 320000000000000000) := by
  have h1 := isNum_t (hM i j hi hj)
  have h2 := mul_in h1 (isNum_t (hM t t ht ht))
  have h3 := mul_in (isNum_t (hM i t hi ht)) (isNum_t (hM t j ht hj))
  have h4 := Int.natAbs_tdiv_le_natAbs (M i j * M t t - M i t * M t j) bf
  exact ⟨h1, h2, h3, by omega⟩
theorem swap_num {n p t : Nat} {M : Det.Mat} (hM : ∀ a b, a < n → b < n → isNum (M a b) = true) (hp : p < n) (ht : t < n) : ∀ a b, a < n → b < n → isNum ((if p = t then M else Det.Alt.swap M p t) a b) = true := by
  intro a b ha hb
  split
  · exact hM a b ha hb
  · simp only [Det.Alt.swap, Det.setRow]
    split
    · exact hM p b hp hb
    · split
      · exact hM t b ht hb
      · exact hM a b ha hb
theorem swap_piv {p t : Nat} {M : Det.Mat} : (if p = t then M else Det.Alt.swap M p t) t t = M p t := by
  split
  · rename_i h; rw [h]
  · simp [Det.Alt.swap, Det.setRow]
theorem step_num {n t : Nat} {bf : Int} {M : Det.Mat} (hM : ∀ a b, a < n → b < n → isNum (M a b) = true) (ho : stepOk n t bf M) : ∀ a b, a < n → b < n → isNum (stepM t bf M a b) = true := by
  intro a b ha hb
  simp only [stepM]
  split
  · rename_i h; exact ho a b h.1 ha h.2 hb
  · exact hM a b ha hb
set_option maxRecDepth 100000 in
set_option maxHeartbeats 16000000 in
theorem implSteps_yes (n : Nat) (A : Option Addr) (cap : Nat) (xs : List Int) (w : World) (hA : Sl w A xs.length cap xs) (h6 : n ≤ 6) (hl : xs.length = n * n) (hx : xs.all isNum = true) (hn : xs.length ≤ 1048576) (hq : isSq n n xs = true) :
    Calls Try.prog 19 #[mv n n (.slice A xs.length cap)] w fun e w' => e = .returned (.tuple #[.int .i64 (stepsL n xs).1, .bool (stepsL n xs).2]) ∧ Below w.heap.size w w' := by
  have HA := hide hA; clear hA
  have hM0 : ∀ a b, a < n → b < n → isNum (toM n xs a b) = true := fun a b ha hb => all_getD hx (by rw [hl]; exact ix_lt ha hb)
  have hXS : xs = tab (n * n) (mf n (toM n xs)) := by rw [← ofM_mf, ofM_toM hl]
  have hR0 : stepsR n (n - 0) 0 (toM n xs) 1 1 = stepsL n xs := rfl
  generalize toM n xs = M0 at *
  obtain ⟨N, hNN⟩ : ∃ N, n * n = N := ⟨_, rfl⟩
  rw [hNN] at hXS hl
  have hN36 : N ≤ 36 := by rw [← hNN]; exact Nat.mul_le_mul h6 h6
  have HN := hide hNN
  have HM0 := hide hM0
  have HXS := hide hXS
  have HR0 := hide hR0
  have HL := hide hl
  have HQ := hide hq
  clear hNN hM0 hXS hR0 hl hx hq
  generalize stepsL n xs = R at *
  go_enter Try.func19, Try.ntmps19
  have eq1 := HQ.out
  go_wp2_with fail
  refine (implIsSquare n n A cap xs _ (SlI.below HA.out.2.2.2.2 (by repeat' (first | exact Below.refl _ _ | (refine Below.alloc ?_ ?_ _) | (refine Below.setCell ?_ ?_ _) | (refine Below.drew ?_) | (refine below_drewN ?_ _) | (refine Below.trans ?_ (Below.mono (by assumption) ?_)) | omega | (simp only [World.size_alloc, World.size_setCell, World.size_drew, size_drewN]; omega)))) (by omega)).mono ?_; rintro e w1 ⟨rfl, hb⟩; obtain ⟨hc, hf⟩ := bcell hb; have hz := hb.size; (try simp only [World.size_alloc, World.size_setCell, World.size_drew, size_drewN] at hz); (first | have hs := up3 hz | have hs := up2 hz | have hs := up1 hz | have hs := up0 hz); (try have q10 := hs _ q9); (try have q9 := hs _ q8); (try have q8 := hs _ q7); (try have q7 := hs _ q6); (try have q6 := hs _ q5); (try have q5 := hs _ q4); (try have q4 := hs _ q3); (try have q3 := hs _ q2); (try have q2 := hs _ q1); (try have p7 := hs _ p6); (try have p6 := hs _ p5); (try have p5 := hs _ p4); (try have p4 := hs _ p3); (try have p3 := hs _ p2); (try have p2 := hs _ p1); (try have q1 := new1 hz); (try have p1 := new2 hz); (try have r1 := new3 hz); have hbq := hb
  go_wp2_with fail
  refine (implCopy n n A cap xs _ (HA.out.below (by repeat' (first | exact Below.refl _ _ | (refine Below.alloc ?_ ?_ _) | (refine Below.setCell ?_ ?_ _) | (refine Below.drew ?_) | (refine below_drewN ?_ _) | (refine Below.trans ?_ (Below.mono (by assumption) ?_)) | omega | (simp only [World.size_alloc, World.size_setCell, World.size_drew, size_drewN]; omega)))) (by omega)).mono ?_; rintro e w2 ⟨s, rfl, ho, hb⟩
  obtain ⟨A2, z2, rfl, hs2⟩ := Own.full ho
  have hcap := hs2.2.1
  have hcm := hs2.2.2.1
  have p2 : Box3 w2 w.heap.size (.int .i64 n) (.int .i64 n) (.slice A xs.length cap) := (show Box3 w1 w.heap.size (.int .i64 n) (.int .i64 n) (.slice A xs.length cap) from (by repeat' (first | with_reducible assumption | (with_reducible refine Box3.set ?_ ?_ _) | (with_reducible refine Box3.drew ?_) | (with_reducible refine Box3.drewN ?_ _) | (with_reducible exact Box3.new _ _ _ (by first | rfl | (simp only [World.size_alloc]; done) | (simp only [World.size_alloc]; omega))) | (with_reducible refine Box3.alloc ?_ _) | (with_reducible refine Box3.call ?_ (by assumption)) | (with_reducible refine Box3.grown ?_ (by assumption) (by simp; omega)) | omega | (dsimp only; omega) | (simp only [World.size_alloc, World.size_setCell, World.size_drew, size_drewN]; omega)))).call hb
  have HB2 : Hid (Below w.heap.size w w2) := (show Below w.heap.size w w1 from Below.trans ((Below.refl _ _).alloc (Nat.le_refl _) _) (hbq.mono (by simp))).trans (hb.mono (by omega))
  have hz0 := p2.lt
  have hz2 := hb.size
  have HO := hide ho
  clear hb hbq ho hs2 eq1 hc hf hs hz
  obtain ⟨⟨a0, a1, a2⟩, _⟩ := p2
  rw [HL.out] at hcap HO ⊢
  rw [HXS.out] at HO
  clear HXS
  by_cases h0 : n = 0
  · subst h0
    have HR : Hid (R = (1, true)) := by have := HR0.out; rw [show (0 : Nat) - 0 = 0 from rfl, stepsR] at this; rw [Hid, ← this]; rfl
    go_wp2_with fail
    refine wp_loop_rounds 1 ?_
    rw [rounds_succ]
    go_wp2
    go_returns
    exact ⟨by rw [HR.out]; rfl, HB2.out.alloc HB2.out.size _⟩
  · have hNp : 0 < N := by rw [← HN.out]; exact Nat.mul_pos (by omega) (by omega)
    obtain ⟨g, rfl, hg1, hg2⟩ := own_some HO.out (by rw [tab_length]; exact hNp)
    have HG := hide (Box3.new (x := .int .i64 n) (y := .int .i64 n) (z := .slice (some ⟨g, 0, none⟩) N z2) w2 w2.heap.size 28 rfl)
    have HO1 := hide (HO.out.alloc (.cells #[.int .i64 n, .int .i64 n, .slice (some ⟨g, 0, none⟩) N z2] 28))
    have HB3 := hide (HB2.out.alloc HB2.out.size (.cells #[.int .i64 n, .int .i64 n, .slice (some ⟨g, 0, none⟩) N z2] 28))
    clear HO HB2
    go_wp2_with fail
    go_loopw [6, 7, 8] (fun sv bv tv wr => ∃ (t : Nat) (M : Det.Mat) (sg bf : Int), t ≤ n ∧ tv = .int .i64 t ∧ sv = .int .i64 sg ∧ bv = .int .i64 bf ∧ (-1 ≤ sg ∧ sg ≤ 1) ∧ (-400000000 ≤ bf ∧ bf ≤ 400000000) ∧ Hid (bf ≠ 0) ∧ Hid (∀ a b, a < n → b < n → isNum (M a b) = true) ∧ Hid (stepsR n (n - t) t M sg bf = R) ∧
        Own wr w1.heap.size (.slice (some ⟨g, 0, none⟩) N z2) (tab N (mf n M)) ∧ Box3 wr w2.heap.size (.int .i64 n) (.int .i64 n) (.slice (some ⟨g, 0, none⟩) N z2) ∧ Below w.heap.size w wr) (fun _ _ tv _ => n - (intOf tv).toNat)
    case atStart => exact ⟨0, M0, 1, 1, Nat.zero_le _, rfl, rfl, rfl, by omega, by omega, by rw [Hid]; decide, HM0, HR0, HO1.out, HG.out, HB3.out⟩
    case round =>
      clear HO1 HG HB3 HR0 HM0 a0 a1 a2
      obtain ⟨t, M, sg, bf, ht, rfl, rfl, rfl, hsg, hbf, hb0, hM, hR, ho, bx, hB⟩ := hrel
      obtain ⟨wo, rfl⟩ : ∃ wo : World, wo = wr := ⟨_, rfl⟩
      have HO := hide ho
      have BX := hide bx
      have HB := hide hB
      clear ho bx hB
      by_cases hlt : t < n
      · go_wp2_with fail
        go_loopw [9] (fun pv wr => ∃ p : Nat, t ≤ p ∧ p ≤ n ∧ pv = .int .i64 p ∧ Hid (pivF M t (n - p) p = pivO n M t) ∧ Below wo.heap.size wo wr) (fun pv _ => n - (intOf pv).toNat)
        case atStart => exact ⟨t, Nat.le_refl _, ht, rfl, rfl, Below.refl _ _⟩
        case round =>
          obtain ⟨p, hp1, hp2, rfl, hpv, hbo⟩ := hrel
          obtain ⟨wp, rfl⟩ : ∃ wp : World, wp = wr := ⟨_, rfl⟩
          have HO1 := hide (HO.out.below hbo)
          have BX1 := hide (BX.out.call hbo)
          have HB1 := hide (kb_call HB.out (Nat.le_refl _) hbo)
          have hbo' := hide hbo
          clear hbo
          obtain ⟨⟨a0, a1, a2⟩, _⟩ := BX1.out
          by_cases hpn : p < n
          · obtain ⟨x, hx⟩ : ∃ x, M p t = x := ⟨_, rfl⟩
            have hxn := isNum_t (hM.out p t hpn hlt)
            rw [hx] at hxn
            have CA := hide (implAtM n p t g z2 w1.heap.size N M x wp hx HN.out h6 hpn hlt HO1.out)
            have HX := hide hx
            clear hx
            by_cases hx0 : x = 0
            · have hxb : (x == 0) = true := by simpa using hx0
              have hnx : Hid (pivF M t (n - (p + 1)) (p + 1) = pivO n M t) := (pivF_next hpn (HX.out.trans hx0)).trans hpv.out
              clear hx0
              go_wp2_with fail
              refine CA.out.mono ?_; rintro e w3 ⟨rfl, hb⟩
              have hbo2 := hide (kb_call hbo'.out (Nat.le_refl _) hb)
              clear hb
              go_wp2_with fail
              go_roundw
              case rel => exact ⟨p + 1, by omega, by omega, by go_num, hnx, hbo2.out⟩
              case measure => simp [intOf]; omega
            · have hxb : (x == 0) = false := by simpa using hx0
              have HX0 := hide hx0
              have hpo : Hid (pivO n M t = some p) := by rw [Hid, ← hpv.out]; exact pivF_here hpn (by rw [HX.out]; exact hx0)
              have epn : ((p : Int) == (n : Int)) = false := by simp; omega
              clear hx0
              go_wp2_with fail
              refine CA.out.mono ?_; rintro e w3 ⟨rfl, hb⟩
              have HO2 := hide (HO1.out.below hb)
              have BX2 := hide (BX1.out.call hb)
              have HB2 := hide (kb_call HB1.out (Nat.le_refl _) hb)
              clear hb HO1 BX1 HB1 HO BX HB hbo' a0 a1 a2 CA hpv
              obtain ⟨M1, hM1⟩ : ∃ M1, M1 = if p = t then M else Det.Alt.swap M p t := ⟨_, rfl⟩
              have hsw := swap_num hM.out hpn hlt
              have hpv1 : M1 t t = x := by rw [hM1, swap_piv, HX.out]
              rw [← hM1] at hsw
              have HM1 := hide hM1
              have HSW := hide hsw
              have HPV := hide hpv1
              clear hM1 hsw hpv1
              obtain ⟨bq, hbq⟩ : ∃ bq : Bool, ((p : Int) != (t : Int)) = bq := ⟨_, rfl⟩
              go_upto_if 43 with (fail)
              have hbq2 := hide hbq
              clear hbq
              go_cut [6] (fun sv wx => ∃ sg' : Int, sv = .int .i64 sg' ∧ Hid (sg' = if p = t then sg else -sg) ∧ (-1 ≤ sg' ∧ sg' ≤ 1) ∧ Own wx w1.heap.size (.slice (some ⟨g, 0, none⟩) N z2) (tab N (mf n M1)) ∧ Box3 wx w2.heap.size (.int .i64 n) (.int .i64 n) (.slice (some ⟨g, 0, none⟩) N z2) ∧ Below w.heap.size w wx)
              case first =>
                cases bq
                · have hpt : p = t := by have := hbq2.out; simp at this; omega
                  have HE : Hid (M1 = M) := by rw [Hid, HM1.out, if_pos hpt]
                  have HS : Hid (sg = if p = t then sg else -sg) := by rw [Hid, if_pos hpt]
                  clear hpt
                  go_wp2_with fail
                  go_meet
                  exact ⟨sg, rfl, HS, hsg, by rw [HE.out]; exact HO2.out, BX2.out, HB2.out⟩
                · have hpt : p ≠ t := by have := hbq2.out; simp at this; omega
                  have HE : Hid (M1 = Det.Alt.swap M p t) := by rw [Hid, HM1.out, if_neg hpt]
                  have HS : Hid (-sg = if p = t then sg else -sg) := by rw [Hid, if_neg hpt]
                  have HPT := hide hpt
                  clear hpt
                  obtain ⟨⟨a0, a1, a2⟩, _⟩ := BX2.out
                  go_wp2_with fail
                  refine (implSwapM n p t g z2 w1.heap.size N M _ HN.out h6 hpn hlt HPT.out HO2.out hcap hcm).mono ?_; rintro e w4 ⟨rfl, ho, hg⟩
                  have HO3 := hide ho
                  have BX3 := hide (BX2.out.grown hg (by simp; omega))
                  have HB3 := hide (HB2.out.grown hg HB2.out.size (fun j hj => by cases hj; omega))
                  clear ho hg a0 a1 a2
                  go_wp2_with fail
                  go_meet
                  exact ⟨-sg, rfl, HS, by omega, by rw [HE.out]; exact HO3.out, BX3.out, HB3.out⟩
              case rest =>
                obtain ⟨sg', rfl, hsg', hsgb, ho, bx, hB⟩ := hcut
                have HO := hide ho
                have BX := hide bx
                have HB := hide hB
                have HSG := hide hsg'.out
                clear ho bx hB HO2 BX2 HB2 hsg' hsg
                go_wp2_with fail
                go_loopw [10] (fun iv wr => ∃ i : Nat, t + 1 ≤ i ∧ i ≤ n ∧ iv = .int .i64 i ∧ Hid (∀ a b, t < a → a < i → t < b → b < n → isNum (stepV t bf M1 a b) = true) ∧ Own wr w1.heap.size (.slice (some ⟨g, 0, none⟩) N z2) (tab N (mf n (stTo t bf M1 i (t + 1)))) ∧ Box3 wr w2.heap.size (.int .i64 n) (.int .i64 n) (.slice (some ⟨g, 0, none⟩) N z2) ∧ Below w.heap.size w wr) (fun iv _ => n - (intOf iv).toNat)
                case atStart => exact ⟨t + 1, Nat.le_refl _, by omega, by go_num, fun a b h1 h2 => by omega, by rw [stTo_start t bf M1 (t + 1) (Nat.le_refl _)]; exact HO.out, BX.out, HB.out⟩
                case round =>
                  clear HO BX HB
                  obtain ⟨i, hi1, hi2, rfl, hok, ho, bx, hB⟩ := hrel
                  obtain ⟨wi, rfl⟩ : ∃ wi : World, wi = wr := ⟨_, rfl⟩
                  have HO := hide ho
                  have BX := hide bx
                  have HB := hide hB
                  clear ho bx hB
                  by_cases hin : i < n
                  · go_wp2_with fail
                    go_loopw [11] (fun jv wr => ∃ j : Nat, t + 1 ≤ j ∧ j ≤ n ∧ jv = .int .i64 j ∧ Hid (∀ b, t < b → b < j → isNum (stepV t bf M1 i b) = true) ∧ Own wr w1.heap.size (.slice (some ⟨g, 0, none⟩) N z2) (tab N (mf n (stTo t bf M1 i j))) ∧ Box3 wr w2.heap.size (.int .i64 n) (.int .i64 n) (.slice (some ⟨g, 0, none⟩) N z2) ∧ Below w.heap.size w wr) (fun jv _ => n - (intOf jv).toNat)
                    case atStart => exact ⟨t + 1, Nat.le_refl _, by omega, by go_num, fun b h1 h2 => by omega, HO.out, BX.out, HB.out⟩
                    case round =>
                      clear HO BX HB
                      obtain ⟨j, hj1, hj2, rfl, hokj, ho, bx, hB⟩ := hrel
                      obtain ⟨wj, rfl⟩ : ∃ wj : World, wj = wr := ⟨_, rfl⟩
                      have HO := hide ho
                      have BX := hide bx
                      have HB := hide hB
                      clear ho bx hB
                      by_cases hjn : j < n
                      · obtain ⟨v1, v2, v3, v4⟩ := step_in (bf := bf) HSW.out hlt hin hjn
                        have hst := stTo_set (n := n) (t := t) (i := i) (j := j) (before := bf) (M := M1) hin hjn (by omega) (by omega)
                        rw [ofM_mf, ofM_mf, HN.out] at hst
                        have ca1 := fun w h => implAtM n i j g z2 w1.heap.size N (stTo t bf M1 i j) (M1 i j) w stTo_at HN.out h6 hin hjn h
                        have ca2 := fun w h => implAtM n t t g z2 w1.heap.size N (stTo t bf M1 i j) (M1 t t) w stTo_top HN.out h6 hlt hlt h
                        have ca3 := fun w h => implAtM n i t g z2 w1.heap.size N (stTo t bf M1 i j) (M1 i t) w stTo_col HN.out h6 hin hlt h
                        have ca4 := fun w h => implAtM n t j g z2 w1.heap.size N (stTo t bf M1 i j) (M1 t j) w stTo_top HN.out h6 hlt hjn h
                        have hv : stepV t bf M1 i j = (M1 i j * M1 t t - M1 i t * M1 t j).tdiv bf := rfl
                        obtain ⟨x1, e1⟩ : ∃ x, M1 i j = x := ⟨_, rfl⟩
                        obtain ⟨x2, e2⟩ : ∃ x, M1 t t = x := ⟨_, rfl⟩
                        obtain ⟨x3, e3⟩ : ∃ x, M1 i t = x := ⟨_, rfl⟩
                        obtain ⟨x4, e4⟩ : ∃ x, M1 t j = x := ⟨_, rfl⟩
                        rw [e1] at v1 v2 v4 ca1 hv
                        rw [e2] at v2 v4 ca2 hv
                        rw [e3] at v3 v4 ca3 hv
                        rw [e4] at v3 v4 ca4 hv
                        obtain ⟨y, hy⟩ : ∃ y, (x1 * x2 - x3 * x4).tdiv bf = y := ⟨_, rfl⟩
                        have hvy := hv.trans hy
                        rw [hvy] at hst
                        have C1 := hide ca1
                        have C2 := hide ca2
                        have C3 := hide ca3
                        have C4 := hide ca4
                        have HST := hide hst
                        have HVY := hide hvy
                        have hbf0 : ¬ bf = 0 := hb0.out
                        have k1 : IntKind.i64.wrap (x1 * x2) = x1 * x2 := IntWalk.i64_in _ (by omega)
                        have k2 : IntKind.i64.wrap (x3 * x4) = x3 * x4 := IntWalk.i64_in _ (by omega)
                        have k3 : IntKind.i64.wrap (x1 * x2 - x3 * x4) = x1 * x2 - x3 * x4 := IntWalk.i64_in _ (by omega)
                        have k4 : IntKind.i64.wrap ((x1 * x2 - x3 * x4).tdiv bf) = y := by rw [← hy]; exact IntWalk.i64_in _ (by omega)
                        rw [hy] at v4
                        clear ca1 ca2 ca3 ca4 hst hv hvy hy e1 e2 e3 e4 v1 v2 v3
                        obtain ⟨⟨a0, a1, a2⟩, _⟩ := BX.out
                        go_wp2_with fail
                        go_region_held3 (fun w' => w'.cell? ⟨w2.heap.size, 0, none⟩ = some (.int .i64 n) ∧ w'.cell? ⟨w2.heap.size, 1, none⟩ = some (.int .i64 n) ∧ w'.cell? ⟨w2.heap.size, 2, none⟩ = some (.slice (some ⟨g, 0, none⟩) N z2) ∧ Below wj.heap.size wj w')
                          (first
                            | exact kc3_call (by assumption) (by assumption)
                            | exact kc3_drew (by assumption)
                            | (refine ⟨?_, ?_, ?_, ?_⟩ <;> first | assumption | (go_simp; done) | exact (by repeat' (first | exact Below.refl _ _ | (refine Below.alloc ?_ ?_ _) | (refine Below.setCell ?_ ?_ _) | (refine Below.drew ?_) | (refine below_drewN ?_ _) | (refine Below.trans ?_ (Below.mono (by assumption) ?_)) | omega | (simp only [World.size_alloc, World.size_setCell, World.size_drew, size_drewN]; omega)))))
                          (first
                            | (go_at_call 52; (with_reducible refine (C1.out _ (HO.out.below (by first | exact (Below.refl _ _).drew | (have hh := ‹_ ∧ _ ∧ _ ∧ Below wj.heap.size wj _›; exact hh.2.2.2)))).mono ?_); rintro e w5 ⟨rfl, hb⟩)
                            | (go_at_call 52; (with_reducible refine (C2.out _ (HO.out.below (by first | exact (Below.refl _ _).drew | (have hh := ‹_ ∧ _ ∧ _ ∧ Below wj.heap.size wj _›; exact hh.2.2.2)))).mono ?_); rintro e w5 ⟨rfl, hb⟩)
                            | (go_at_call 52; (with_reducible refine (C3.out _ (HO.out.below (by first | exact (Below.refl _ _).drew | (have hh := ‹_ ∧ _ ∧ _ ∧ Below wj.heap.size wj _›; exact hh.2.2.2)))).mono ?_); rintro e w5 ⟨rfl, hb⟩)
                            | (go_at_call 52; (with_reducible refine (C4.out _ (HO.out.below (by first | exact (Below.refl _ _).drew | (have hh := ‹_ ∧ _ ∧ _ ∧ Below wj.heap.size wj _›; exact hh.2.2.2)))).mono ?_); rintro e w5 ⟨rfl, hb⟩))
                        obtain ⟨_, _, _, hbj⟩ := ‹_ ∧ _ ∧ _ ∧ Below wj.heap.size wj w5›
                        have HO5 := hide (HO.out.below hbj)
                        have BX5 := hide (BX.out.call hbj)
                        have HB5 := hide (kb_call HB.out (Nat.le_refl _) hbj)
                        clear hbj HO BX HB a0 a1 a2 C1 C2 C3 C4
                        rcases Bool.eq_false_or_eq_true (isNum y) with hy | hy
                        · have hokj' : Hid (∀ b, t < b → b < j + 1 → isNum (stepV t bf M1 i b) = true) := fun b h1 h2 => by
                            by_cases e : b = j
                            · subst e; rw [HVY.out]; exact hy
                            · exact hokj.out b h1 (by omega)
                          obtain ⟨⟨a0, a1, a2⟩, _⟩ := BX5.out
                          go_wp2_with fail
                          refine (implIsNumber _ _).mono ?_; rintro e w6 ⟨rfl, rfl⟩
                          go_wp2_with fail
                          refine (implSetM n i j g z2 w1.heap.size N (stTo t bf M1 i j) (stTo t bf M1 i (j + 1)) y _ HST.out HN.out h6 hin hjn HO5.out).mono ?_; rintro e w7 ⟨rfl, ho, hg⟩
                          have HO7 := hide ho
                          have BX7 := hide (BX5.out.grown hg (by simp; omega))
                          have HB7 := hide (HB5.out.grown hg HB5.out.size (fun j hj => by cases hj; omega))
                          clear ho hg
                          go_wp2_with fail
                          go_roundw
                          case rel => exact ⟨j + 1, by omega, by omega, by go_num, hokj', HO7.out, BX7.out, HB7.out⟩
                          case measure => simp [intOf]; omega
                        · have hRb : Hid (R = (0, false)) := by
                            have h := hR.out
                            rw [show n - t = (n - t - 1) + 1 from by omega, stepsR_bad hpo.out HM1.out (fun hh => by have h7 := hh i j (by omega) hin (by omega) hjn; rw [HVY.out, hy] at h7; cases h7)] at h
                            exact h.symm
                          go_wp2_with fail
                          refine (implIsNumber _ _).mono ?_; rintro e w6 ⟨rfl, rfl⟩
                          go_wp2_with fail
                          go_returns
                          exact ⟨by rw [hRb.out]; rfl, HB5.out⟩
                      · have hjj : j = n := by omega
                        have HO8 : Hid (Own wj w1.heap.size (.slice (some ⟨g, 0, none⟩) N z2) (tab N (mf n (stTo t bf M1 (i + 1) (t + 1))))) := by
                          have h1 := HO.out
                          have h2 : tab (n * n) (mf n (stTo t bf M1 i n)) = tab (n * n) (mf n (stTo t bf M1 (i + 1) (t + 1))) := mf_congr fun a b ha hb => stTo_row hb
                          rw [HN.out] at h2
                          rw [hjj, h2] at h1
                          exact h1
                        have hok' : Hid (∀ a b, t < a → a < i + 1 → t < b → b < n → isNum (stepV t bf M1 a b) = true) := fun a b h1 h2 h3 h4 => by
                          by_cases e : a = i
                          · subst e; exact hokj.out b h3 (by omega)
                          · exact hok.out a b h1 (by omega) h3 h4
                        clear HO
                        subst hjj
                        go_wp2_with fail
                        go_roundw
                        case rel => exact ⟨i + 1, by omega, by omega, by go_num, hok', HO8.out, BX.out, HB.out⟩
                        case measure => simp [intOf]; omega
                  · have hii : i = n := by omega
                    have hso : Hid (stepOk n t bf M1) := fun a b h1 h2 h3 h4 => hok.out a b h1 (by omega) h3 h4
                    have HO8 : Hid (Own wi w1.heap.size (.slice (some ⟨g, 0, none⟩) N z2) (tab N (mf n (stepM t bf M1)))) := by
                      have h1 := HO.out
                      have h2 : tab (n * n) (mf n (stTo t bf M1 n (t + 1))) = tab (n * n) (mf n (stepM t bf M1)) := mf_congr fun a b ha hb => stTo_end ha _
                      rw [HN.out] at h2
                      rw [hii, h2] at h1
                      exact h1
                    have hRn : Hid (stepsR n (n - (t + 1)) (t + 1) (stepM t bf M1) sg' x = R) := by
                      have h := hR.out
                      rw [show n - t = (n - (t + 1)) + 1 from by omega, stepsR_go hpo.out HM1.out hso.out, ← HSG.out, HPV.out] at h
                      exact h
                    have hMn : Hid (∀ a b, a < n → b < n → isNum (stepM t bf M1 a b) = true) := step_num HSW.out hso.out
                    have CA := hide (fun w h => implAtM n t t g z2 w1.heap.size N (stepM t bf M1) x w (by rw [← HPV.out, stepM, if_neg (by omega)]) HN.out h6 hlt hlt h)
                    clear HO hii
                    have einn : decide ((i : Int) < (n : Int)) = false := decide_eq_false (by omega)
                    obtain ⟨⟨a0, a1, a2⟩, _⟩ := BX.out
                    go_wp2_with fail
                    refine (CA.out _ HO8.out).mono ?_; rintro e w9 ⟨rfl, hb⟩
                    have HO9 := hide (HO8.out.below hb)
                    have BX9 := hide (BX.out.call hb)
                    have HB9 := hide (kb_call HB.out (Nat.le_refl _) hb)
                    clear hb
                    go_wp2_with fail
                    go_roundw
                    case rel => exact ⟨t + 1, stepM t bf M1, sg', x, by omega, by go_num, rfl, rfl, hsgb, hxn, HX0, hMn, hRn, HO9.out, BX9.out, HB9.out⟩
                    case measure => simp [intOf]; omega
          · have hpp : p = n := by omega
            have epn : ((p : Int) == (n : Int)) = true := by simp; omega
            have hpo : Hid (pivO n M t = none) := by have h := hpv.out; rw [hpp, pivF_end] at h; exact h.symm
            have hRn : Hid (R = (0, true)) := by
              have h := hR.out
              rw [show n - t = (n - t - 1) + 1 from by omega, stepsR_none hpo.out] at h
              exact h.symm
            clear hpp
            go_wp2_with fail
            go_returns
            exact ⟨by rw [hRn.out]; rfl, HB1.out⟩
      · have htn : t = n := by omega
        have HR : Hid (R = (sg * bf, true)) := by have h := hR.out; rw [htn, Nat.sub_self, stepsR] at h; exact h.symm
        have hsb : -400000000 ≤ sg * bf ∧ sg * bf ≤ 400000000 := by
          have : sg = -1 ∨ sg = 0 ∨ sg = 1 := by omega
          rcases this with rfl | rfl | rfl <;> omega
        have k1 : IntKind.i64.wrap (sg * bf) = sg * bf := IntWalk.i64_in _ (by omega)
        clear hsb
        go_wp2_with fail
        go_returns
        exact ⟨by rw [HR.out]; rfl, HB.out⟩
end Go.Proofs.Ytchlaebkigmfgaa
