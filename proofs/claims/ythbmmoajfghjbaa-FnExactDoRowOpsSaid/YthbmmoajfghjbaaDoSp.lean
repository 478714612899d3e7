/- The walks of DoRowOp, the reference's. -/
import Derived.Test.YthbmmoajfghjbaaDoEx
namespace Go.Proofs.Ythbmmoajfghjbaa
open Go.RowKit
set_option linter.unusedSimpArgs false
set_option linter.unusedVariables false
set_option maxHeartbeats 4000000 in
theorem specDoNil (R i j : Nat) (k t : Int) (A : Option Addr) (cap : Nat) (w : World) :
    Calls Try.prog 33 #[mv R 0 (.slice A 0 cap), opv k i j t] w fun e w' => e = .returned (.tuple #[]) ∧ Below w.heap.size w w' := by
  go_enter Try.func33, Try.ntmps33
  go_wp2_with fail
  refine wp_loop_rounds 1 ?_
  rw [rounds_succ]
  go_wp2
  go_returns
  exact ⟨rfl, (by repeat' (first | exact Below.refl _ _ | (refine Below.alloc ?_ ?_ _) | (refine Below.setCell ?_ ?_ _) | (refine Below.drew ?_) | (refine below_drewN ?_ _) | (refine Below.trans ?_ (Below.mono (by assumption) ?_)) | omega | (simp only [World.size_alloc, World.size_setCell, World.size_drew, size_drewN]; omega)))⟩
theorem specDoU (R C k i j : Nat) (t : Int) (A : Option Addr) (n cap lo : Nat) (xs : List Int) (w : World) (hO : Own w lo (.slice A n cap) xs) (hm : isMat R C xs = true) (ho : isRowOp k i j t R = true) :
    Calls Try.prog 33 #[mv R C (.slice A n cap), opv k i j t] w fun e w' => e = .returned (.tuple #[]) ∧ Own w' lo (.slice A n cap) (dL R C k i j t xs) ∧ w.grownBy w' (Value.slice A n cap).ownBlock := by
  obtain ⟨_, m2, _, m4, m5, mA, m7⟩ := isMat_t hm
  obtain ⟨h1, h2, h3, h4⟩ := isRowOp_t ho
  have hlx : xs.length = R * C := isMat_len hm
  have hs := Own.sl2 hO
  have hn : n = R * C := by rw [← hlx]; exact hs.1
  subst hn
  rcases Nat.eq_zero_or_pos C with h0 | h0
  · subst h0
    have hx : xs = [] := List.eq_nil_of_length_eq_zero (by rw [hlx]; rfl)
    subst hx
    have hd : dL R 0 k i j t [] = [] := List.eq_nil_of_length_eq_zero (by rw [dL_length]; rfl)
    rw [hd]
    refine (specDoNil R i j k t A cap w).mono ?_
    rintro e w' ⟨rfl, hb⟩
    exact ⟨rfl, hO.below hb, ⟨hb.os, hb.tape, hb.output, hb.size, fun q hq _ => hb.block q hq⟩⟩
  · have hpos : 0 < xs.length := by rw [hlx]; exact Nat.mul_pos (by omega) h0
    obtain ⟨g, rfl, _, _⟩ := own_some hO hpos
    exact specDoEx R C k i j t g cap lo (R * C) xs w hO hlx rfl (by omega) (by omega) ho
set_option maxHeartbeats 8000000 in
theorem specDoOp_in (R C k i j : Nat) (t : Int) (A : Option Addr) (cap : Nat) (xs : List Int) (w : World) (hA : Sl w A xs.length cap xs) (hm : isMat R C xs = true) (ho : isRowOp k i j t R = true) :
    Calls Try.prog 15 #[mv R C (.slice A xs.length cap), opv k i j t] w (RetM w (opRes R C xs k i j t)) := by
  have m7 := (isMat_t hm).2.2.2.2.2.2
  have m2 := (isMat_t hm).2.1
  have hin : opIn R C xs k i j t = true := by simp [opIn, hm, ho]
  have hnat : opRes (R : Int) C xs k i j t = if (opIn R C xs k i j t && opGo k C i j t xs) = true then ⟨R, C, opL R C k i j t xs, true⟩ else .no := rfl
  have hll : (dL R C k i j t xs).length = xs.length := by rw [dL_length, isMat_len hm]
  have hok := dL_ok (t := t) hm ho
  have hno := dL_no (t := t) hm ho
  have cr := fun A n cap lo w h => specDoU R C k i j t A n cap lo xs w h hm ho
  have cc := fun A cap w (h : Sl w A xs.length cap xs) => specCopy R C A cap xs w h (by omega)
  have HA := hide hA; clear hA
  have CC := hide cc
  clear cc
  rcases Bool.eq_false_or_eq_true (opGo k C i j t xs) with hg | hg
  · have HR : Hid (opRes R C xs k i j t = ⟨R, C, opL R C k i j t xs, true⟩) := by rw [Hid, hnat, if_pos (by simp [hin, hg])]
    obtain ⟨e1, e2⟩ := hok hg
    rw [← e1] at HR e2
    obtain ⟨L, hL⟩ : ∃ L, dL R C k i j t xs = L := ⟨_, rfl⟩
    rw [hL] at cr HR hll e2
    have cd := fun A cap w (h : SlI w A L) => specDone_yes R C A cap L w h (by omega) e2
    rw [hll] at cd
    have CR := hide cr
    have CD := hide cd
    have HLL := hide hll
    clear cr cd hL hin hnat hg hll hok hno e1 e2
    rw [HR.out]
    go_enter Try.func15, Try.ntmps15
    go_wp2_with (first
      | (go_at_call 30; refine (specIsMatrix R C A cap xs _ (SlI.below HA.out.2.2.2.2 (by repeat' (first | exact Below.refl _ _ | (refine Below.alloc ?_ ?_ _) | (refine Below.setCell ?_ ?_ _) | (refine Below.drew ?_) | (refine below_drewN ?_ _) | (refine Below.trans ?_ (Below.mono (by assumption) ?_)) | omega | (simp only [World.size_alloc, World.size_setCell, World.size_drew, size_drewN]; omega)))) (by omega)).mono ?_; rintro e w1 ⟨rfl, hb⟩; obtain ⟨hc, hf⟩ := bcell hb; have hz := hb.size; (try simp only [World.size_alloc, World.size_setCell, World.size_drew, size_drewN] at hz); (first | have hs := up3 hz | have hs := up2 hz | have hs := up1 hz | have hs := up0 hz); (try have q10 := hs _ q9); (try have q9 := hs _ q8); (try have q8 := hs _ q7); (try have q7 := hs _ q6); (try have q6 := hs _ q5); (try have q5 := hs _ q4); (try have q4 := hs _ q3); (try have q3 := hs _ q2); (try have q2 := hs _ q1); (try have p7 := hs _ p6); (try have p6 := hs _ p5); (try have p5 := hs _ p4); (try have p4 := hs _ p3); (try have p3 := hs _ p2); (try have p2 := hs _ p1); (try have q1 := new1 hz); (try have p1 := new2 hz); (try have r1 := new3 hz))
      | (go_at_call 31; refine (specIsRowOp _ _ _ _ _ _ (by omega) (by omega)).mono ?_; rintro e w2 ⟨rfl, hb⟩; obtain ⟨hc, hf⟩ := bcell hb; have hz := hb.size; (try simp only [World.size_alloc, World.size_setCell, World.size_drew, size_drewN] at hz); (first | have hs := up3 hz | have hs := up2 hz | have hs := up1 hz | have hs := up0 hz); (try have q10 := hs _ q9); (try have q9 := hs _ q8); (try have q8 := hs _ q7); (try have q7 := hs _ q6); (try have q6 := hs _ q5); (try have q5 := hs _ q4); (try have q4 := hs _ q3); (try have q3 := hs _ q2); (try have q2 := hs _ q1); (try have p7 := hs _ p6); (try have p6 := hs _ p5); (try have p5 := hs _ p4); (try have p4 := hs _ p3); (try have p3 := hs _ p2); (try have p2 := hs _ p1); (try have q1 := new1 hz); (try have p1 := new2 hz); (try have r1 := new3 hz))
      | (go_at_call 32; refine (CC.out A cap _ (HA.out.below (by repeat' (first | exact Below.refl _ _ | (refine Below.alloc ?_ ?_ _) | (refine Below.setCell ?_ ?_ _) | (refine Below.drew ?_) | (refine below_drewN ?_ _) | (refine Below.trans ?_ (Below.mono (by assumption) ?_)) | omega | (simp only [World.size_alloc, World.size_setCell, World.size_drew, size_drewN]; omega))))).mono ?_; rintro e w3 ⟨s, rfl, ho, hb⟩; obtain ⟨hc, hf⟩ := bcell hb; have hz := hb.size; (try simp only [World.size_alloc, World.size_setCell, World.size_drew, size_drewN] at hz); (first | have hs := up3 hz | have hs := up2 hz | have hs := up1 hz | have hs := up0 hz); (try have q10 := hs _ q9); (try have q9 := hs _ q8); (try have q8 := hs _ q7); (try have q7 := hs _ q6); (try have q6 := hs _ q5); (try have q5 := hs _ q4); (try have q4 := hs _ q3); (try have q3 := hs _ q2); (try have q2 := hs _ q1); (try have p7 := hs _ p6); (try have p6 := hs _ p5); (try have p5 := hs _ p4); (try have p4 := hs _ p3); (try have p3 := hs _ p2); (try have p2 := hs _ p1); (try have q1 := new1 hz); (try have p1 := new2 hz); (try have r1 := new3 hz); obtain ⟨A2, c2, rfl, _⟩ := Own.sl ho; have HO := hide ho; clear ho))
    have hl := Own.lt HO.out
    refine (CR.out A2 xs.length c2 w2.heap.size _ (Own.alloc HO.out _)).mono ?_
    rintro e w4 ⟨rfl, ho4, hg⟩
    have HO4 := hide ho4
    clear ho4
    have b3 : Box3 w3 (w.heap.size + 1 + 1) (.int .i64 0) (.int .i64 0) (.slice none 0 0) := (by repeat' (first | with_reducible assumption | (with_reducible refine Box3.set ?_ ?_ _) | (with_reducible refine Box3.drew ?_) | (with_reducible refine Box3.drewN ?_ _) | (with_reducible exact Box3.new _ _ _ (by first | rfl | (simp only [World.size_alloc]; done) | (simp only [World.size_alloc]; omega))) | (with_reducible refine Box3.alloc ?_ _) | (with_reducible refine Box3.call ?_ (by assumption)) | (with_reducible refine Box3.grown ?_ (by assumption) (by simp; omega)) | omega | (dsimp only; omega) | (simp only [World.size_alloc, World.size_setCell, World.size_drew, size_drewN]; omega)))
    have k3 := hide ((b3.alloc (.cells #[.int .i64 R, .int .i64 C, .slice A2 xs.length c2] 36)).grown hg (fun e => by have := hl _ e.symm; omega))
    have b4 : Box3 (w3.alloc (.cells #[.int .i64 R, .int .i64 C, .slice A2 xs.length c2] 36)) w3.heap.size (.int .i64 R) (.int .i64 C) (.slice A2 xs.length c2) := Box3.new _ _ _ rfl
    have k4 := hide (b4.grown hg (fun e => by have := hl _ e.symm; omega))
    have hB3 : Below w.heap.size w w3 := (by repeat' (first | exact Below.refl _ _ | (refine Below.alloc ?_ ?_ _) | (refine Below.setCell ?_ ?_ _) | (refine Below.drew ?_) | (refine below_drewN ?_ _) | (refine Below.trans ?_ (Below.mono (by assumption) ?_)) | omega | (simp only [World.size_alloc, World.size_setCell, World.size_drew, size_drewN]; omega)))
    have hB4 := hide (Below.grown (hB3.alloc hB3.size _) hg (by have := hB3.size; first | omega | (simp; done) | (simp; omega)) (fun q hq => by have := (hl q hq).1; omega))
    have hz3 : w.heap.size + 1 + 1 < w2.heap.size := by omega
    clear hc hf hs hz hg b3 b4 hB3
    obtain ⟨⟨y0, y1, y2⟩, _⟩ := k4.out
    have ho4' : Own w4 w2.heap.size (.slice A2 L.length c2) L := by rw [HLL.out]; exact HO4.out
    go_wp2_with fail
    refine (CD.out A2 c2 _ (Own.reads ho4').2).mono ?_; rintro e w5 ⟨rfl, hb⟩
    have k5 := hide (k3.out.call hb)
    have hB5 := hide (kb_call hB4.out (Nat.le_refl _) hb)
    have HO5 := hide (HO4.out.below hb)
    have hl5 := own_nm HO5.out
    clear ho4' y0 y1 y2 hb HO4 k4
    obtain ⟨⟨x0, x1, x2⟩, f0, f1, f2⟩ := k5.out
    have p5 := k5.out.lt
    obtain ⟨⟨m0, m1, m2⟩, _⟩ := (Box3.stored k5.out (.int .i64 R) (.int .i64 C) (.slice A2 xs.length c2)).alloc (.cells #[.int .i64 R, .int .i64 C, .slice A2 xs.length c2] 36)
    go_wp2
    exact bodyPost_ret (v := .tuple #[mv (R) (C) (.slice A2 xs.length c2), .bool true]) (by first | (simp [results, Try.results15, go_sem, m0, m1, m2]; done) | (simp [results, Try.results15, go_sem]; done)) rfl ⟨_, rfl, Own.mono (lo := w2.heap.size) (Own.alloc (Own.set (Own.set (Own.set HO5.out (fun e => by have := hl5 _ e; dsimp only at this; omega) _) (fun e => by have := hl5 _ e; dsimp only at this; omega) _) (fun e => by have := hl5 _ e; dsimp only at this; omega) _) _) (by omega), (((hB5.out.setCell (by dsimp only; omega) _).setCell (by dsimp only; omega) _).setCell (by dsimp only; omega) _).alloc (by have := hB5.out.size; simp; omega) _⟩
  · have HR : Hid (opRes R C xs k i j t = .no) := by rw [Hid, hnat, if_neg (by simp [hg])]
    have e2 := hno hg
    obtain ⟨L, hL⟩ : ∃ L, dL R C k i j t xs = L := ⟨_, rfl⟩
    rw [hL] at cr hll e2
    have cd := fun A cap w (h : SlI w A L) => specDone_no R C A cap L w h (by omega) e2
    rw [hll] at cd
    have CR := hide cr
    have CD := hide cd
    have HLL := hide hll
    clear cr cd hL hin hnat hg hll hok hno e2
    rw [HR.out]
    go_enter Try.func15, Try.ntmps15
    go_wp2_with (first
      | (go_at_call 30; refine (specIsMatrix R C A cap xs _ (SlI.below HA.out.2.2.2.2 (by repeat' (first | exact Below.refl _ _ | (refine Below.alloc ?_ ?_ _) | (refine Below.setCell ?_ ?_ _) | (refine Below.drew ?_) | (refine below_drewN ?_ _) | (refine Below.trans ?_ (Below.mono (by assumption) ?_)) | omega | (simp only [World.size_alloc, World.size_setCell, World.size_drew, size_drewN]; omega)))) (by omega)).mono ?_; rintro e w1 ⟨rfl, hb⟩; obtain ⟨hc, hf⟩ := bcell hb; have hz := hb.size; (try simp only [World.size_alloc, World.size_setCell, World.size_drew, size_drewN] at hz); (first | have hs := up3 hz | have hs := up2 hz | have hs := up1 hz | have hs := up0 hz); (try have q10 := hs _ q9); (try have q9 := hs _ q8); (try have q8 := hs _ q7); (try have q7 := hs _ q6); (try have q6 := hs _ q5); (try have q5 := hs _ q4); (try have q4 := hs _ q3); (try have q3 := hs _ q2); (try have q2 := hs _ q1); (try have p7 := hs _ p6); (try have p6 := hs _ p5); (try have p5 := hs _ p4); (try have p4 := hs _ p3); (try have p3 := hs _ p2); (try have p2 := hs _ p1); (try have q1 := new1 hz); (try have p1 := new2 hz); (try have r1 := new3 hz))
      | (go_at_call 31; refine (specIsRowOp _ _ _ _ _ _ (by omega) (by omega)).mono ?_; rintro e w2 ⟨rfl, hb⟩; obtain ⟨hc, hf⟩ := bcell hb; have hz := hb.size; (try simp only [World.size_alloc, World.size_setCell, World.size_drew, size_drewN] at hz); (first | have hs := up3 hz | have hs := up2 hz | have hs := up1 hz | have hs := up0 hz); (try have q10 := hs _ q9); (try have q9 := hs _ q8); (try have q8 := hs _ q7); (try have q7 := hs _ q6); (try have q6 := hs _ q5); (try have q5 := hs _ q4); (try have q4 := hs _ q3); (try have q3 := hs _ q2); (try have q2 := hs _ q1); (try have p7 := hs _ p6); (try have p6 := hs _ p5); (try have p5 := hs _ p4); (try have p4 := hs _ p3); (try have p3 := hs _ p2); (try have p2 := hs _ p1); (try have q1 := new1 hz); (try have p1 := new2 hz); (try have r1 := new3 hz))
      | (go_at_call 32; refine (CC.out A cap _ (HA.out.below (by repeat' (first | exact Below.refl _ _ | (refine Below.alloc ?_ ?_ _) | (refine Below.setCell ?_ ?_ _) | (refine Below.drew ?_) | (refine below_drewN ?_ _) | (refine Below.trans ?_ (Below.mono (by assumption) ?_)) | omega | (simp only [World.size_alloc, World.size_setCell, World.size_drew, size_drewN]; omega))))).mono ?_; rintro e w3 ⟨s, rfl, ho, hb⟩; obtain ⟨hc, hf⟩ := bcell hb; have hz := hb.size; (try simp only [World.size_alloc, World.size_setCell, World.size_drew, size_drewN] at hz); (first | have hs := up3 hz | have hs := up2 hz | have hs := up1 hz | have hs := up0 hz); (try have q10 := hs _ q9); (try have q9 := hs _ q8); (try have q8 := hs _ q7); (try have q7 := hs _ q6); (try have q6 := hs _ q5); (try have q5 := hs _ q4); (try have q4 := hs _ q3); (try have q3 := hs _ q2); (try have q2 := hs _ q1); (try have p7 := hs _ p6); (try have p6 := hs _ p5); (try have p5 := hs _ p4); (try have p4 := hs _ p3); (try have p3 := hs _ p2); (try have p2 := hs _ p1); (try have q1 := new1 hz); (try have p1 := new2 hz); (try have r1 := new3 hz); obtain ⟨A2, c2, rfl, _⟩ := Own.sl ho; have HO := hide ho; clear ho))
    have hl := Own.lt HO.out
    refine (CR.out A2 xs.length c2 w2.heap.size _ (Own.alloc HO.out _)).mono ?_
    rintro e w4 ⟨rfl, ho4, hg⟩
    have HO4 := hide ho4
    clear ho4
    have b3 : Box3 w3 (w.heap.size + 1 + 1) (.int .i64 0) (.int .i64 0) (.slice none 0 0) := (by repeat' (first | with_reducible assumption | (with_reducible refine Box3.set ?_ ?_ _) | (with_reducible refine Box3.drew ?_) | (with_reducible refine Box3.drewN ?_ _) | (with_reducible exact Box3.new _ _ _ (by first | rfl | (simp only [World.size_alloc]; done) | (simp only [World.size_alloc]; omega))) | (with_reducible refine Box3.alloc ?_ _) | (with_reducible refine Box3.call ?_ (by assumption)) | (with_reducible refine Box3.grown ?_ (by assumption) (by simp; omega)) | omega | (dsimp only; omega) | (simp only [World.size_alloc, World.size_setCell, World.size_drew, size_drewN]; omega)))
    have k3 := hide ((b3.alloc (.cells #[.int .i64 R, .int .i64 C, .slice A2 xs.length c2] 36)).grown hg (fun e => by have := hl _ e.symm; omega))
    have b4 : Box3 (w3.alloc (.cells #[.int .i64 R, .int .i64 C, .slice A2 xs.length c2] 36)) w3.heap.size (.int .i64 R) (.int .i64 C) (.slice A2 xs.length c2) := Box3.new _ _ _ rfl
    have k4 := hide (b4.grown hg (fun e => by have := hl _ e.symm; omega))
    have hB3 : Below w.heap.size w w3 := (by repeat' (first | exact Below.refl _ _ | (refine Below.alloc ?_ ?_ _) | (refine Below.setCell ?_ ?_ _) | (refine Below.drew ?_) | (refine below_drewN ?_ _) | (refine Below.trans ?_ (Below.mono (by assumption) ?_)) | omega | (simp only [World.size_alloc, World.size_setCell, World.size_drew, size_drewN]; omega)))
    have hB4 := hide (Below.grown (hB3.alloc hB3.size _) hg (by have := hB3.size; first | omega | (simp; done) | (simp; omega)) (fun q hq => by have := (hl q hq).1; omega))
    clear hc hf hs hz hg b3 b4 hB3
    obtain ⟨⟨y0, y1, y2⟩, _⟩ := k4.out
    have ho4' : Own w4 w2.heap.size (.slice A2 L.length c2) L := by rw [HLL.out]; exact HO4.out
    go_wp2_with fail
    refine (CD.out A2 c2 _ (Own.reads ho4').2).mono ?_; rintro e w5 ⟨rfl, hb⟩
    have k5 := hide (k3.out.call hb)
    have hB5 := hide (kb_call hB4.out (Nat.le_refl _) hb)
    clear ho4' y0 y1 y2 hb HO4 k4
    obtain ⟨⟨x0, x1, x2⟩, f0, f1, f2⟩ := k5.out
    have p5 := k5.out.lt
    obtain ⟨⟨m0, m1, m2⟩, _⟩ := (Box3.stored k5.out (.int .i64 0) (.int .i64 0) (.slice none 0 0)).alloc (.cells #[.int .i64 0, .int .i64 0, .slice none 0 0] 36)
    go_wp2
    exact bodyPost_ret (v := .tuple #[mv (0) (0) (.slice none 0 0), .bool false]) (by first | (simp [results, Try.results15, go_sem, m0, m1, m2]; done) | (simp [results, Try.results15, go_sem]; done)) rfl ⟨_, rfl, Own.nil _ _, (((hB5.out.setCell (by dsimp only; omega) _).setCell (by dsimp only; omega) _).setCell (by dsimp only; omega) _).alloc (by have := hB5.out.size; simp; omega) _⟩
set_option maxHeartbeats 2000000 in
theorem specDoOp_out (r c k i j t : Int) (hr0 : -9223372036854775808 ≤ r) (hr1 : r ≤ 9223372036854775807) (A : Option Addr) (cap : Nat) (xs : List Int) (w : World) (hA : Sl w A xs.length cap xs) (hn : xs.length ≤ 1048576) (h : opIn r c xs k i j t = false) :
    Calls Try.prog 15 #[mv r c (.slice A xs.length cap), opv k i j t] w (RetMat w 0 0 [] false) := by
  have HA := hide hA; clear hA
  rcases Bool.eq_false_or_eq_true (isMat r c xs) with hm | hm
  · have hr : isRowOp k i j t r = false := by simpa [opIn, hm] using h
    clear h
    go_enter Try.func15, Try.ntmps15
    go_wp2_with (first
      | (go_at_call 30; refine (specIsMatrix r c A cap xs _ (SlI.below HA.out.2.2.2.2 (by repeat' (first | exact Below.refl _ _ | (refine Below.alloc ?_ ?_ _) | (refine Below.setCell ?_ ?_ _) | (refine Below.drew ?_) | (refine below_drewN ?_ _) | (refine Below.trans ?_ (Below.mono (by assumption) ?_)) | omega | (simp only [World.size_alloc, World.size_setCell, World.size_drew, size_drewN]; omega)))) hn).mono ?_; rintro e w1 ⟨rfl, hb⟩; obtain ⟨hc, hf⟩ := bcell hb; have hz := hb.size; (try simp only [World.size_alloc, World.size_setCell, World.size_drew, size_drewN] at hz); (first | have hs := up3 hz | have hs := up2 hz | have hs := up1 hz | have hs := up0 hz); (try have q10 := hs _ q9); (try have q9 := hs _ q8); (try have q8 := hs _ q7); (try have q7 := hs _ q6); (try have q6 := hs _ q5); (try have q5 := hs _ q4); (try have q4 := hs _ q3); (try have q3 := hs _ q2); (try have q2 := hs _ q1); (try have p7 := hs _ p6); (try have p6 := hs _ p5); (try have p5 := hs _ p4); (try have p4 := hs _ p3); (try have p3 := hs _ p2); (try have p2 := hs _ p1); (try have q1 := new1 hz); (try have p1 := new2 hz); (try have r1 := new3 hz))
      | (go_at_call 31; refine (specIsRowOp _ _ _ _ _ _ (by omega) (by omega)).mono ?_; rintro e w2 ⟨rfl, hb⟩; obtain ⟨hc, hf⟩ := bcell hb; have hz := hb.size; (try simp only [World.size_alloc, World.size_setCell, World.size_drew, size_drewN] at hz); (first | have hs := up3 hz | have hs := up2 hz | have hs := up1 hz | have hs := up0 hz); (try have q10 := hs _ q9); (try have q9 := hs _ q8); (try have q8 := hs _ q7); (try have q7 := hs _ q6); (try have q6 := hs _ q5); (try have q5 := hs _ q4); (try have q4 := hs _ q3); (try have q3 := hs _ q2); (try have q2 := hs _ q1); (try have p7 := hs _ p6); (try have p6 := hs _ p5); (try have p5 := hs _ p4); (try have p4 := hs _ p3); (try have p3 := hs _ p2); (try have p2 := hs _ p1); (try have q1 := new1 hz); (try have p1 := new2 hz); (try have r1 := new3 hz); obtain ⟨⟨x0, x1, x2⟩, f0, f1, f2⟩ := show Box3 w2 (w.heap.size + 1 + 1) (.int .i64 0) (.int .i64 0) (.slice none 0 0) from (by repeat' (first | with_reducible assumption | (with_reducible refine Box3.set ?_ ?_ _) | (with_reducible refine Box3.drew ?_) | (with_reducible refine Box3.drewN ?_ _) | (with_reducible exact Box3.new _ _ _ (by first | rfl | (simp only [World.size_alloc]; done) | (simp only [World.size_alloc]; omega))) | (with_reducible refine Box3.alloc ?_ _) | (with_reducible refine Box3.call ?_ (by assumption)) | (with_reducible refine Box3.grown ?_ (by assumption) (by simp; omega)) | omega | (dsimp only; omega) | (simp only [World.size_alloc, World.size_setCell, World.size_drew, size_drewN]; omega)))))
    obtain ⟨⟨m0, m1, m2⟩, _⟩ := Box3.stored (show Box3 w2 (w.heap.size + 1 + 1) (.int .i64 0) (.int .i64 0) (.slice none 0 0) from (by repeat' (first | with_reducible assumption | (with_reducible refine Box3.set ?_ ?_ _) | (with_reducible refine Box3.drew ?_) | (with_reducible refine Box3.drewN ?_ _) | (with_reducible exact Box3.new _ _ _ (by first | rfl | (simp only [World.size_alloc]; done) | (simp only [World.size_alloc]; omega))) | (with_reducible refine Box3.alloc ?_ _) | (with_reducible refine Box3.call ?_ (by assumption)) | (with_reducible refine Box3.grown ?_ (by assumption) (by simp; omega)) | omega | (dsimp only; omega) | (simp only [World.size_alloc, World.size_setCell, World.size_drew, size_drewN]; omega)))) (.int .i64 0) (.int .i64 0) (.slice none 0 0)
    exact bodyPost_ret (v := .tuple #[mv (0) (0) (.slice none 0 0), .bool false]) (by first | (simp [results, Try.results15, go_sem, m0, m1, m2]; done) | (simp [results, Try.results15, go_sem]; done)) rfl ⟨_, rfl, Own.nil _ _, (by repeat' (first | exact Below.refl _ _ | (refine Below.alloc ?_ ?_ _) | (refine Below.setCell ?_ ?_ _) | (refine Below.drew ?_) | (refine below_drewN ?_ _) | (refine Below.trans ?_ (Below.mono (by assumption) ?_)) | omega | (simp only [World.size_alloc, World.size_setCell, World.size_drew, size_drewN]; omega)))⟩
  · clear h
    go_enter Try.func15, Try.ntmps15
    go_wp2_with ((go_at_call 30; refine (specIsMatrix r c A cap xs _ (SlI.below HA.out.2.2.2.2 (by repeat' (first | exact Below.refl _ _ | (refine Below.alloc ?_ ?_ _) | (refine Below.setCell ?_ ?_ _) | (refine Below.drew ?_) | (refine below_drewN ?_ _) | (refine Below.trans ?_ (Below.mono (by assumption) ?_)) | omega | (simp only [World.size_alloc, World.size_setCell, World.size_drew, size_drewN]; omega)))) hn).mono ?_; rintro e w1 ⟨rfl, hb⟩; obtain ⟨hc, hf⟩ := bcell hb; have hz := hb.size; (try simp only [World.size_alloc, World.size_setCell, World.size_drew, size_drewN] at hz); (first | have hs := up3 hz | have hs := up2 hz | have hs := up1 hz | have hs := up0 hz); (try have q10 := hs _ q9); (try have q9 := hs _ q8); (try have q8 := hs _ q7); (try have q7 := hs _ q6); (try have q6 := hs _ q5); (try have q5 := hs _ q4); (try have q4 := hs _ q3); (try have q3 := hs _ q2); (try have q2 := hs _ q1); (try have p7 := hs _ p6); (try have p6 := hs _ p5); (try have p5 := hs _ p4); (try have p4 := hs _ p3); (try have p3 := hs _ p2); (try have p2 := hs _ p1); (try have q1 := new1 hz); (try have p1 := new2 hz); (try have r1 := new3 hz); obtain ⟨⟨x0, x1, x2⟩, f0, f1, f2⟩ := show Box3 w1 (w.heap.size + 1 + 1) (.int .i64 0) (.int .i64 0) (.slice none 0 0) from (by repeat' (first | with_reducible assumption | (with_reducible refine Box3.set ?_ ?_ _) | (with_reducible refine Box3.drew ?_) | (with_reducible refine Box3.drewN ?_ _) | (with_reducible exact Box3.new _ _ _ (by first | rfl | (simp only [World.size_alloc]; done) | (simp only [World.size_alloc]; omega))) | (with_reducible refine Box3.alloc ?_ _) | (with_reducible refine Box3.call ?_ (by assumption)) | (with_reducible refine Box3.grown ?_ (by assumption) (by simp; omega)) | omega | (dsimp only; omega) | (simp only [World.size_alloc, World.size_setCell, World.size_drew, size_drewN]; omega)))))
    obtain ⟨⟨m0, m1, m2⟩, _⟩ := Box3.stored (show Box3 w1 (w.heap.size + 1 + 1) (.int .i64 0) (.int .i64 0) (.slice none 0 0) from (by repeat' (first | with_reducible assumption | (with_reducible refine Box3.set ?_ ?_ _) | (with_reducible refine Box3.drew ?_) | (with_reducible refine Box3.drewN ?_ _) | (with_reducible exact Box3.new _ _ _ (by first | rfl | (simp only [World.size_alloc]; done) | (simp only [World.size_alloc]; omega))) | (with_reducible refine Box3.alloc ?_ _) | (with_reducible refine Box3.call ?_ (by assumption)) | (with_reducible refine Box3.grown ?_ (by assumption) (by simp; omega)) | omega | (dsimp only; omega) | (simp only [World.size_alloc, World.size_setCell, World.size_drew, size_drewN]; omega)))) (.int .i64 0) (.int .i64 0) (.slice none 0 0)
    exact bodyPost_ret (v := .tuple #[mv (0) (0) (.slice none 0 0), .bool false]) (by first | (simp [results, Try.results15, go_sem, m0, m1, m2]; done) | (simp [results, Try.results15, go_sem]; done)) rfl ⟨_, rfl, Own.nil _ _, (by repeat' (first | exact Below.refl _ _ | (refine Below.alloc ?_ ?_ _) | (refine Below.setCell ?_ ?_ _) | (refine Below.drew ?_) | (refine below_drewN ?_ _) | (refine Below.trans ?_ (Below.mono (by assumption) ?_)) | omega | (simp only [World.size_alloc, World.size_setCell, World.size_drew, size_drewN]; omega)))⟩
theorem specDoOp (r c k i j t : Int) (hr0 : -9223372036854775808 ≤ r) (hr1 : r ≤ 9223372036854775807) (A : Option Addr) (cap : Nat) (xs : List Int) (w : World) (hA : Sl w A xs.length cap xs) (hn : xs.length ≤ 1048576) :
    Calls Try.prog 15 #[mv r c (.slice A xs.length cap), opv k i j t] w (RetM w (opRes r c xs k i j t)) := by
  rcases Bool.eq_false_or_eq_true (opIn r c xs k i j t) with h | h
  · have h0 := h
    simp only [opIn, Bool.and_eq_true] at h0
    obtain ⟨h1, h2⟩ := h0
    obtain ⟨g1, g2, g3, g4⟩ := isRowOp_pos h2
    obtain ⟨R, rfl⟩ := Int.eq_ofNat_of_zero_le (isMat_t h1).1
    obtain ⟨C, rfl⟩ := Int.eq_ofNat_of_zero_le (isMat_t h1).2.2.1
    obtain ⟨k, rfl⟩ := Int.eq_ofNat_of_zero_le g1
    obtain ⟨i, rfl⟩ := Int.eq_ofNat_of_zero_le g2
    obtain ⟨j, rfl⟩ := Int.eq_ofNat_of_zero_le g3
    exact specDoOp_in R C k i j t A cap xs w hA h1 h2
  · rw [show opRes r c xs k i j t = .no from by rw [opRes, if_neg (by simp [h])]]
    exact specDoOp_out r c k i j t hr0 hr1 A cap xs w hA hn h
end Go.Proofs.Ythbmmoajfghjbaa
