/- The walks of DoRowOp, the program's. -/
import Derived.Test.YthbmmoajfghjbaaOpR
import Derived.Test.YthbmmoajfghjbaaCopyW
namespace Go.Proofs.Ythbmmoajfghjbaa
open Go.RowKit
set_option linter.unusedSimpArgs false
set_option linter.unusedVariables false

def opIn (r c : Int) (xs : List Int) (k i j t : Int) : Bool := isMat r c xs && isRowOp k i j t r
def opRes (r c : Int) (xs : List Int) (k i j t : Int) : MRes := if (opIn r c xs k i j t && opGo k.toNat c.toNat i.toNat j.toNat t xs) = true then ⟨r, c, opL r.toNat c.toNat k.toNat i.toNat j.toNat t xs, true⟩ else .no
theorem DoRowOp_len {r c : Int} {xs : List Int} {k i j t : Int} : (opRes r c xs k i j t).L.length ≤ 1048576 := by
  unfold opRes
  split
  · rename_i h
    simp only [opIn, Bool.and_eq_true] at h
    obtain ⟨h1, h2, h3, h4, _⟩ := isMat_t h.1.1
    have hr : r.toNat ≤ 24 := by omega
    have hc : c.toNat ≤ 24 := by omega
    have : r.toNat * c.toNat ≤ 24 * 24 := Nat.mul_le_mul hr hc
    show (opL _ _ _ _ _ _ xs).length ≤ _
    rw [opL, ofM_length]; omega
  · exact Nat.zero_le _
theorem isRowOp_pos {k i j t r : Int} (h : isRowOp k i j t r = true) : 0 ≤ k ∧ 0 ≤ i ∧ 0 ≤ j ∧ k ≤ 2 := by
  simp only [isRowOp, Bool.and_eq_true, decide_eq_true_eq, Bool.or_eq_true] at h
  omega
set_option maxHeartbeats 8000000 in
theorem implDoOp_in (R C k i j : Nat) (t : Int) (A : Option Addr) (cap : Nat) (xs : List Int) (w : World) (hA : Sl w A xs.length cap xs) (hm : isMat R C xs = true) (ho : isRowOp k i j t R = true) :
    Calls Try.prog 18 #[mv R C (.slice A xs.length cap), opv k i j t] w (RetM w (opRes R C xs k i j t)) := by
  have m7 := (isMat_t hm).2.2.2.2.2.2
  have hin : opIn R C xs k i j t = true := by simp [opIn, hm, ho]
  have hnat : opRes (R : Int) C xs k i j t = if (opIn R C xs k i j t && opGo k C i j t xs) = true then ⟨R, C, opL R C k i j t xs, true⟩ else .no := rfl
  have hll : (opL R C k i j t xs).length = xs.length := by
    have m5 := (isMat_t hm).2.2.2.2.1
    have : (xs.length : Int) = ((R * C : Nat) : Int) := by rw [m5]; push_cast; rfl
    rw [opL, ofM_length]; omega
  have cr := fun A n cap lo w h => implRowOp R C k i j t A n cap lo xs w h hm ho
  have cc := fun A cap w (h : Sl w A xs.length cap xs) => implCopy R C A cap xs w h (by omega)
  have HA := hide hA; clear hA
  have CC := hide cc
  clear cc
  rcases Bool.eq_false_or_eq_true (opGo k C i j t xs) with hg | hg
  · have HR : Hid (opRes R C xs k i j t = ⟨R, C, opL R C k i j t xs, true⟩) := by rw [Hid, hnat, if_pos (by simp [hin, hg])]
    obtain ⟨L, hL⟩ : ∃ L, opL R C k i j t xs = L := ⟨_, rfl⟩
    rw [hL] at cr HR hll
    rw [hg] at cr
    have CR := hide cr
    have HLL := hide hll
    clear cr hL hin hnat hg hll
    rw [HR.out]
    go_enter Try.func18, Try.ntmps18
    go_wp2_with (first
      | (go_at_call 36; refine (implIsMatrix R C A cap xs _ (SlI.below HA.out.2.2.2.2 (by repeat' (first | exact Below.refl _ _ | (refine Below.alloc ?_ ?_ _) | (refine Below.setCell ?_ ?_ _) | (refine Below.drew ?_) | (refine below_drewN ?_ _) | (refine Below.trans ?_ (Below.mono (by assumption) ?_)) | omega | (simp only [World.size_alloc, World.size_setCell, World.size_drew, size_drewN]; omega)))) (by omega)).mono ?_; rintro e w1 ⟨rfl, hb⟩; obtain ⟨hc, hf⟩ := bcell hb; have hz := hb.size; (try simp only [World.size_alloc, World.size_setCell, World.size_drew, size_drewN] at hz); (first | have hs := up3 hz | have hs := up2 hz | have hs := up1 hz | have hs := up0 hz); (try have q10 := hs _ q9); (try have q9 := hs _ q8); (try have q8 := hs _ q7); (try have q7 := hs _ q6); (try have q6 := hs _ q5); (try have q5 := hs _ q4); (try have q4 := hs _ q3); (try have q3 := hs _ q2); (try have q2 := hs _ q1); (try have p7 := hs _ p6); (try have p6 := hs _ p5); (try have p5 := hs _ p4); (try have p4 := hs _ p3); (try have p3 := hs _ p2); (try have p2 := hs _ p1); (try have q1 := new1 hz); (try have p1 := new2 hz); (try have r1 := new3 hz))
      | (go_at_call 37; refine (implIsRowOp _ _ _ _ _ _).mono ?_; rintro e w2 ⟨rfl, hb⟩; obtain ⟨hc, hf⟩ := bcell hb; have hz := hb.size; (try simp only [World.size_alloc, World.size_setCell, World.size_drew, size_drewN] at hz); (first | have hs := up3 hz | have hs := up2 hz | have hs := up1 hz | have hs := up0 hz); (try have q10 := hs _ q9); (try have q9 := hs _ q8); (try have q8 := hs _ q7); (try have q7 := hs _ q6); (try have q6 := hs _ q5); (try have q5 := hs _ q4); (try have q4 := hs _ q3); (try have q3 := hs _ q2); (try have q2 := hs _ q1); (try have p7 := hs _ p6); (try have p6 := hs _ p5); (try have p5 := hs _ p4); (try have p4 := hs _ p3); (try have p3 := hs _ p2); (try have p2 := hs _ p1); (try have q1 := new1 hz); (try have p1 := new2 hz); (try have r1 := new3 hz))
      | (go_at_call 38; refine (CC.out A cap _ (HA.out.below (by repeat' (first | exact Below.refl _ _ | (refine Below.alloc ?_ ?_ _) | (refine Below.setCell ?_ ?_ _) | (refine Below.drew ?_) | (refine below_drewN ?_ _) | (refine Below.trans ?_ (Below.mono (by assumption) ?_)) | omega | (simp only [World.size_alloc, World.size_setCell, World.size_drew, size_drewN]; omega))))).mono ?_; rintro e w3 ⟨s, rfl, ho, hb⟩; obtain ⟨hc, hf⟩ := bcell hb; have hz := hb.size; (try simp only [World.size_alloc, World.size_setCell, World.size_drew, size_drewN] at hz); (first | have hs := up3 hz | have hs := up2 hz | have hs := up1 hz | have hs := up0 hz); (try have q10 := hs _ q9); (try have q9 := hs _ q8); (try have q8 := hs _ q7); (try have q7 := hs _ q6); (try have q6 := hs _ q5); (try have q5 := hs _ q4); (try have q4 := hs _ q3); (try have q3 := hs _ q2); (try have q2 := hs _ q1); (try have p7 := hs _ p6); (try have p6 := hs _ p5); (try have p5 := hs _ p4); (try have p4 := hs _ p3); (try have p3 := hs _ p2); (try have p2 := hs _ p1); (try have q1 := new1 hz); (try have p1 := new2 hz); (try have r1 := new3 hz); obtain ⟨A2, c2, rfl, _⟩ := Own.sl ho; have HO := hide ho; clear ho))
    have hl := Own.lt HO.out
    refine (CR.out A2 xs.length c2 w2.heap.size _ (Own.alloc HO.out _)).mono ?_
    rintro e w4 ⟨rfl, ho4, hg⟩
    have HO4 := hide (ho4 rfl)
    clear ho4
    have b3 : Box3 w3 (w.heap.size + 1 + 1) (.int .i64 0) (.int .i64 0) (.slice none 0 0) := (by repeat' (first | with_reducible assumption | (with_reducible refine Box3.set ?_ ?_ _) | (with_reducible refine Box3.drew ?_) | (with_reducible refine Box3.drewN ?_ _) | (with_reducible exact Box3.new _ _ _ (by first | rfl | (simp only [World.size_alloc]; done) | (simp only [World.size_alloc]; omega))) | (with_reducible refine Box3.alloc ?_ _) | (with_reducible refine Box3.call ?_ (by assumption)) | (with_reducible refine Box3.grown ?_ (by assumption) (by simp; omega)) | omega | (dsimp only; omega) | (simp only [World.size_alloc, World.size_setCell, World.size_drew, size_drewN]; omega)))
    have k3 := hide ((b3.alloc (.cells #[.int .i64 R, .int .i64 C, .slice A2 xs.length c2] 36)).grown hg (fun e => by have := hl _ e.symm; omega))
    have b4 : Box3 (w3.alloc (.cells #[.int .i64 R, .int .i64 C, .slice A2 xs.length c2] 36)) w3.heap.size (.int .i64 R) (.int .i64 C) (.slice A2 xs.length c2) := Box3.new _ _ _ rfl
    have k4 := hide (b4.grown hg (fun e => by have := hl _ e.symm; omega))
    have hB3 : Below w.heap.size w w3 := (by repeat' (first | exact Below.refl _ _ | (refine Below.alloc ?_ ?_ _) | (refine Below.setCell ?_ ?_ _) | (refine Below.drew ?_) | (refine below_drewN ?_ _) | (refine Below.trans ?_ (Below.mono (by assumption) ?_)) | omega | (simp only [World.size_alloc, World.size_setCell, World.size_drew, size_drewN]; omega)))
    have hB4 := hide (Below.grown (hB3.alloc hB3.size _) hg (by have := hB3.size; first | omega | (simp; done) | (simp; omega)) (fun q hq => by have := (hl q hq).1; omega))
    clear hc hf hs hz hg b3 b4 hB3
    obtain ⟨⟨x0, x1, x2⟩, f0, f1, f2⟩ := k3.out
    obtain ⟨⟨y0, y1, y2⟩, _⟩ := k4.out
    obtain ⟨⟨m0, m1, m2⟩, _⟩ := Box3.stored k3.out (.int .i64 R) (.int .i64 C) (.slice A2 xs.length c2)
    have hl4 := own_nm HO4.out
    have hz3 : w.heap.size + 1 + 1 < w2.heap.size := by omega
    go_wp2
    exact bodyPost_ret (v := .tuple #[mv (R) (C) (.slice A2 xs.length c2), .bool true]) (by first | (simp [results, Try.results18, go_sem, m0, m1, m2]; done) | (simp [results, Try.results18, go_sem]; done)) rfl ⟨_, rfl, Own.mono (lo := w2.heap.size) (Own.set (Own.set (Own.set HO4.out (fun e => by have := hl4 _ e; dsimp only at this; omega) _) (fun e => by have := hl4 _ e; dsimp only at this; omega) _) (fun e => by have := hl4 _ e; dsimp only at this; omega) _) (by omega), ((hB4.out.setCell (by dsimp only; omega) _).setCell (by dsimp only; omega) _).setCell (by dsimp only; omega) _⟩
  · have HR : Hid (opRes R C xs k i j t = .no) := by rw [Hid, hnat, if_neg (by simp [hg])]
    rw [hg] at cr
    have CR := hide cr
    clear cr hin hnat hg hll
    rw [HR.out]
    go_enter Try.func18, Try.ntmps18
    go_wp2_with (first
      | (go_at_call 36; refine (implIsMatrix R C A cap xs _ (SlI.below HA.out.2.2.2.2 (by repeat' (first | exact Below.refl _ _ | (refine Below.alloc ?_ ?_ _) | (refine Below.setCell ?_ ?_ _) | (refine Below.drew ?_) | (refine below_drewN ?_ _) | (refine Below.trans ?_ (Below.mono (by assumption) ?_)) | omega | (simp only [World.size_alloc, World.size_setCell, World.size_drew, size_drewN]; omega)))) (by omega)).mono ?_; rintro e w1 ⟨rfl, hb⟩; obtain ⟨hc, hf⟩ := bcell hb; have hz := hb.size; (try simp only [World.size_alloc, World.size_setCell, World.size_drew, size_drewN] at hz); (first | have hs := up3 hz | have hs := up2 hz | have hs := up1 hz | have hs := up0 hz); (try have q10 := hs _ q9); (try have q9 := hs _ q8); (try have q8 := hs _ q7); (try have q7 := hs _ q6); (try have q6 := hs _ q5); (try have q5 := hs _ q4); (try have q4 := hs _ q3); (try have q3 := hs _ q2); (try have q2 := hs _ q1); (try have p7 := hs _ p6); (try have p6 := hs _ p5); (try have p5 := hs _ p4); (try have p4 := hs _ p3); (try have p3 := hs _ p2); (try have p2 := hs _ p1); (try have q1 := new1 hz); (try have p1 := new2 hz); (try have r1 := new3 hz))
      | (go_at_call 37; refine (implIsRowOp _ _ _ _ _ _).mono ?_; rintro e w2 ⟨rfl, hb⟩; obtain ⟨hc, hf⟩ := bcell hb; have hz := hb.size; (try simp only [World.size_alloc, World.size_setCell, World.size_drew, size_drewN] at hz); (first | have hs := up3 hz | have hs := up2 hz | have hs := up1 hz | have hs := up0 hz); (try have q10 := hs _ q9); (try have q9 := hs _ q8); (try have q8 := hs _ q7); (try have q7 := hs _ q6); (try have q6 := hs _ q5); (try have q5 := hs _ q4); (try have q4 := hs _ q3); (try have q3 := hs _ q2); (try have q2 := hs _ q1); (try have p7 := hs _ p6); (try have p6 := hs _ p5); (try have p5 := hs _ p4); (try have p4 := hs _ p3); (try have p3 := hs _ p2); (try have p2 := hs _ p1); (try have q1 := new1 hz); (try have p1 := new2 hz); (try have r1 := new3 hz))
      | (go_at_call 38; refine (CC.out A cap _ (HA.out.below (by repeat' (first | exact Below.refl _ _ | (refine Below.alloc ?_ ?_ _) | (refine Below.setCell ?_ ?_ _) | (refine Below.drew ?_) | (refine below_drewN ?_ _) | (refine Below.trans ?_ (Below.mono (by assumption) ?_)) | omega | (simp only [World.size_alloc, World.size_setCell, World.size_drew, size_drewN]; omega))))).mono ?_; rintro e w3 ⟨s, rfl, ho, hb⟩; obtain ⟨hc, hf⟩ := bcell hb; have hz := hb.size; (try simp only [World.size_alloc, World.size_setCell, World.size_drew, size_drewN] at hz); (first | have hs := up3 hz | have hs := up2 hz | have hs := up1 hz | have hs := up0 hz); (try have q10 := hs _ q9); (try have q9 := hs _ q8); (try have q8 := hs _ q7); (try have q7 := hs _ q6); (try have q6 := hs _ q5); (try have q5 := hs _ q4); (try have q4 := hs _ q3); (try have q3 := hs _ q2); (try have q2 := hs _ q1); (try have p7 := hs _ p6); (try have p6 := hs _ p5); (try have p5 := hs _ p4); (try have p4 := hs _ p3); (try have p3 := hs _ p2); (try have p2 := hs _ p1); (try have q1 := new1 hz); (try have p1 := new2 hz); (try have r1 := new3 hz); obtain ⟨A2, c2, rfl, _⟩ := Own.sl ho; have HO := hide ho; clear ho))
    have hl := Own.lt HO.out
    refine (CR.out A2 xs.length c2 w2.heap.size _ (Own.alloc HO.out _)).mono ?_
    rintro e w4 ⟨rfl, ho4, hg⟩
    clear ho4
    have b3 : Box3 w3 (w.heap.size + 1 + 1) (.int .i64 0) (.int .i64 0) (.slice none 0 0) := (by repeat' (first | with_reducible assumption | (with_reducible refine Box3.set ?_ ?_ _) | (with_reducible refine Box3.drew ?_) | (with_reducible refine Box3.drewN ?_ _) | (with_reducible exact Box3.new _ _ _ (by first | rfl | (simp only [World.size_alloc]; done) | (simp only [World.size_alloc]; omega))) | (with_reducible refine Box3.alloc ?_ _) | (with_reducible refine Box3.call ?_ (by assumption)) | (with_reducible refine Box3.grown ?_ (by assumption) (by simp; omega)) | omega | (dsimp only; omega) | (simp only [World.size_alloc, World.size_setCell, World.size_drew, size_drewN]; omega)))
    have k3 := hide ((b3.alloc (.cells #[.int .i64 R, .int .i64 C, .slice A2 xs.length c2] 36)).grown hg (fun e => by have := hl _ e.symm; omega))
    have hB3 : Below w.heap.size w w3 := (by repeat' (first | exact Below.refl _ _ | (refine Below.alloc ?_ ?_ _) | (refine Below.setCell ?_ ?_ _) | (refine Below.drew ?_) | (refine below_drewN ?_ _) | (refine Below.trans ?_ (Below.mono (by assumption) ?_)) | omega | (simp only [World.size_alloc, World.size_setCell, World.size_drew, size_drewN]; omega)))
    have hB4 := hide (Below.grown (hB3.alloc hB3.size _) hg (by have := hB3.size; first | omega | (simp; done) | (simp; omega)) (fun q hq => by have := (hl q hq).1; omega))
    clear hc hf hs hz hg b3 hB3
    obtain ⟨⟨x0, x1, x2⟩, f0, f1, f2⟩ := k3.out
    obtain ⟨⟨m0, m1, m2⟩, _⟩ := Box3.stored k3.out (.int .i64 0) (.int .i64 0) (.slice none 0 0)
    go_wp2
    exact bodyPost_ret (v := .tuple #[mv (0) (0) (.slice none 0 0), .bool false]) (by first | (simp [results, Try.results18, go_sem, m0, m1, m2]; done) | (simp [results, Try.results18, go_sem]; done)) rfl ⟨_, rfl, Own.nil _ _, ((hB4.out.setCell (by dsimp only; omega) _).setCell (by dsimp only; omega) _).setCell (by dsimp only; omega) _⟩
set_option maxHeartbeats 2000000 in
theorem implDoOp_out (r c k i j t : Int) (A : Option Addr) (cap : Nat) (xs : List Int) (w : World) (hA : Sl w A xs.length cap xs) (hn : xs.length ≤ 1048576) (h : opIn r c xs k i j t = false) :
    Calls Try.prog 18 #[mv r c (.slice A xs.length cap), opv k i j t] w (RetMat w 0 0 [] false) := by
  have HA := hide hA; clear hA
  rcases Bool.eq_false_or_eq_true (isMat r c xs) with hm | hm
  · have hr : isRowOp k i j t r = false := by simpa [opIn, hm] using h
    clear h
    go_enter Try.func18, Try.ntmps18
    go_wp2_with (first
      | (go_at_call 36; refine (implIsMatrix r c A cap xs _ (SlI.below HA.out.2.2.2.2 (by repeat' (first | exact Below.refl _ _ | (refine Below.alloc ?_ ?_ _) | (refine Below.setCell ?_ ?_ _) | (refine Below.drew ?_) | (refine below_drewN ?_ _) | (refine Below.trans ?_ (Below.mono (by assumption) ?_)) | omega | (simp only [World.size_alloc, World.size_setCell, World.size_drew, size_drewN]; omega)))) hn).mono ?_; rintro e w1 ⟨rfl, hb⟩; obtain ⟨hc, hf⟩ := bcell hb; have hz := hb.size; (try simp only [World.size_alloc, World.size_setCell, World.size_drew, size_drewN] at hz); (first | have hs := up3 hz | have hs := up2 hz | have hs := up1 hz | have hs := up0 hz); (try have q10 := hs _ q9); (try have q9 := hs _ q8); (try have q8 := hs _ q7); (try have q7 := hs _ q6); (try have q6 := hs _ q5); (try have q5 := hs _ q4); (try have q4 := hs _ q3); (try have q3 := hs _ q2); (try have q2 := hs _ q1); (try have p7 := hs _ p6); (try have p6 := hs _ p5); (try have p5 := hs _ p4); (try have p4 := hs _ p3); (try have p3 := hs _ p2); (try have p2 := hs _ p1); (try have q1 := new1 hz); (try have p1 := new2 hz); (try have r1 := new3 hz))
      | (go_at_call 37; refine (implIsRowOp _ _ _ _ _ _).mono ?_; rintro e w2 ⟨rfl, hb⟩; obtain ⟨hc, hf⟩ := bcell hb; have hz := hb.size; (try simp only [World.size_alloc, World.size_setCell, World.size_drew, size_drewN] at hz); (first | have hs := up3 hz | have hs := up2 hz | have hs := up1 hz | have hs := up0 hz); (try have q10 := hs _ q9); (try have q9 := hs _ q8); (try have q8 := hs _ q7); (try have q7 := hs _ q6); (try have q6 := hs _ q5); (try have q5 := hs _ q4); (try have q4 := hs _ q3); (try have q3 := hs _ q2); (try have q2 := hs _ q1); (try have p7 := hs _ p6); (try have p6 := hs _ p5); (try have p5 := hs _ p4); (try have p4 := hs _ p3); (try have p3 := hs _ p2); (try have p2 := hs _ p1); (try have q1 := new1 hz); (try have p1 := new2 hz); (try have r1 := new3 hz); obtain ⟨⟨x0, x1, x2⟩, f0, f1, f2⟩ := show Box3 w2 (w.heap.size + 1 + 1) (.int .i64 0) (.int .i64 0) (.slice none 0 0) from (by repeat' (first | with_reducible assumption | (with_reducible refine Box3.set ?_ ?_ _) | (with_reducible refine Box3.drew ?_) | (with_reducible refine Box3.drewN ?_ _) | (with_reducible exact Box3.new _ _ _ (by first | rfl | (simp only [World.size_alloc]; done) | (simp only [World.size_alloc]; omega))) | (with_reducible refine Box3.alloc ?_ _) | (with_reducible refine Box3.call ?_ (by assumption)) | (with_reducible refine Box3.grown ?_ (by assumption) (by simp; omega)) | omega | (dsimp only; omega) | (simp only [World.size_alloc, World.size_setCell, World.size_drew, size_drewN]; omega)))))
    obtain ⟨⟨m0, m1, m2⟩, _⟩ := Box3.stored (show Box3 w2 (w.heap.size + 1 + 1) (.int .i64 0) (.int .i64 0) (.slice none 0 0) from (by repeat' (first | with_reducible assumption | (with_reducible refine Box3.set ?_ ?_ _) | (with_reducible refine Box3.drew ?_) | (with_reducible refine Box3.drewN ?_ _) | (with_reducible exact Box3.new _ _ _ (by first | rfl | (simp only [World.size_alloc]; done) | (simp only [World.size_alloc]; omega))) | (with_reducible refine Box3.alloc ?_ _) | (with_reducible refine Box3.call ?_ (by assumption)) | (with_reducible refine Box3.grown ?_ (by assumption) (by simp; omega)) | omega | (dsimp only; omega) | (simp only [World.size_alloc, World.size_setCell, World.size_drew, size_drewN]; omega)))) (.int .i64 0) (.int .i64 0) (.slice none 0 0)
    exact bodyPost_ret (v := .tuple #[mv (0) (0) (.slice none 0 0), .bool false]) (by first | (simp [results, Try.results18, go_sem, m0, m1, m2]; done) | (simp [results, Try.results18, go_sem]; done)) rfl ⟨_, rfl, Own.nil _ _, (by repeat' (first | exact Below.refl _ _ | (refine Below.alloc ?_ ?_ _) | (refine Below.setCell ?_ ?_ _) | (refine Below.drew ?_) | (refine below_drewN ?_ _) | (refine Below.trans ?_ (Below.mono (by assumption) ?_)) | omega | (simp only [World.size_alloc, World.size_setCell, World.size_drew, size_drewN]; omega)))⟩
  · clear h
    go_enter Try.func18, Try.ntmps18
    go_wp2_with ((go_at_call 36; refine (implIsMatrix r c A cap xs _ (SlI.below HA.out.2.2.2.2 (by repeat' (first | exact Below.refl _ _ | (refine Below.alloc ?_ ?_ _) | (refine Below.setCell ?_ ?_ _) | (refine Below.drew ?_) | (refine below_drewN ?_ _) | (refine Below.trans ?_ (Below.mono (by assumption) ?_)) | omega | (simp only [World.size_alloc, World.size_setCell, World.size_drew, size_drewN]; omega)))) hn).mono ?_; rintro e w1 ⟨rfl, hb⟩; obtain ⟨hc, hf⟩ := bcell hb; have hz := hb.size; (try simp only [World.size_alloc, World.size_setCell, World.size_drew, size_drewN] at hz); (first | have hs := up3 hz | have hs := up2 hz | have hs := up1 hz | have hs := up0 hz); (try have q10 := hs _ q9); (try have q9 := hs _ q8); (try have q8 := hs _ q7); (try have q7 := hs _ q6); (try have q6 := hs _ q5); (try have q5 := hs _ q4); (try have q4 := hs _ q3); (try have q3 := hs _ q2); (try have q2 := hs _ q1); (try have p7 := hs _ p6); (try have p6 := hs _ p5); (try have p5 := hs _ p4); (try have p4 := hs _ p3); (try have p3 := hs _ p2); (try have p2 := hs _ p1); (try have q1 := new1 hz); (try have p1 := new2 hz); (try have r1 := new3 hz); obtain ⟨⟨x0, x1, x2⟩, f0, f1, f2⟩ := show Box3 w1 (w.heap.size + 1 + 1) (.int .i64 0) (.int .i64 0) (.slice none 0 0) from (by repeat' (first | with_reducible assumption | (with_reducible refine Box3.set ?_ ?_ _) | (with_reducible refine Box3.drew ?_) | (with_reducible refine Box3.drewN ?_ _) | (with_reducible exact Box3.new _ _ _ (by first | rfl | (simp only [World.size_alloc]; done) | (simp only [World.size_alloc]; omega))) | (with_reducible refine Box3.alloc ?_ _) | (with_reducible refine Box3.call ?_ (by assumption)) | (with_reducible refine Box3.grown ?_ (by assumption) (by simp; omega)) | omega | (dsimp only; omega) | (simp only [World.size_alloc, World.size_setCell, World.size_drew, size_drewN]; omega)))))
    obtain ⟨⟨m0, m1, m2⟩, _⟩ := Box3.stored (show Box3 w1 (w.heap.size + 1 + 1) (.int .i64 0) (.int .i64 0) (.slice none 0 0) from (by repeat' (first | with_reducible assumption | (with_reducible refine Box3.set ?_ ?_ _) | (with_reducible refine Box3.drew ?_) | (with_reducible refine Box3.drewN ?_ _) | (with_reducible exact Box3.new _ _ _ (by first | rfl | (simp only [World.size_alloc]; done) | (simp only [World.size_alloc]; omega))) | (with_reducible refine Box3.alloc ?_ _) | (with_reducible refine Box3.call ?_ (by assumption)) | (with_reducible refine Box3.grown ?_ (by assumption) (by simp; omega)) | omega | (dsimp only; omega) | (simp only [World.size_alloc, World.size_setCell, World.size_drew, size_drewN]; omega)))) (.int .i64 0) (.int .i64 0) (.slice none 0 0)
    exact bodyPost_ret (v := .tuple #[mv (0) (0) (.slice none 0 0), .bool false]) (by first | (simp [results, Try.results18, go_sem, m0, m1, m2]; done) | (simp [results, Try.results18, go_sem]; done)) rfl ⟨_, rfl, Own.nil _ _, (by repeat' (first | exact Below.refl _ _ | (refine Below.alloc ?_ ?_ _) | (refine Below.setCell ?_ ?_ _) | (refine Below.drew ?_) | (refine below_drewN ?_ _) | (refine Below.trans ?_ (Below.mono (by assumption) ?_)) | omega | (simp only [World.size_alloc, World.size_setCell, World.size_drew, size_drewN]; omega)))⟩
theorem implDoOp (r c k i j t : Int) (A : Option Addr) (cap : Nat) (xs : List Int) (w : World) (hA : Sl w A xs.length cap xs) (hn : xs.length ≤ 1048576) :
    Calls Try.prog 18 #[mv r c (.slice A xs.length cap), opv k i j t] w (RetM w (opRes r c xs k i j t)) := by
  rcases Bool.eq_false_or_eq_true (opIn r c xs k i j t) with h | h
  · have h0 := h
    simp only [opIn, Bool.and_eq_true] at h0
    obtain ⟨h1, h2⟩ := h0
    obtain ⟨g1, g2, g3, g4⟩ := isRowOp_pos h2
    obtain ⟨R, rfl⟩ := Int.eq_ofNat_of_zero_le (isMat_t h1).1
    obtain ⟨C, rfl⟩ := Int.eq_ofNat_of_zero_le (isMat_t h1).2.2.1
    obtain ⟨k, rfl⟩ := Int.eq_ofNat_of_zero_le g1
    obtain ⟨i, rfl⟩ := Int.eq_ofNat_of_zero_le g2
    obtain ⟨j, rfl⟩ := Int.eq_ofNat_of_zero_le g3
    exact implDoOp_in R C k i j t A cap xs w hA h1 h2
  · rw [show opRes r c xs k i j t = .no from by rw [opRes, if_neg (by simp [h])]]
    exact implDoOp_out r c k i j t A cap xs w hA hn h
end Go.Proofs.Ythbmmoajfghjbaa
