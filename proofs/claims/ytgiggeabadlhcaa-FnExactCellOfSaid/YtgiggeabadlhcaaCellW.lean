/- The walks of CellOf. -/
import Derived.Test.YtgiggeabadlhcaaIsMatW
namespace Go.Proofs.Ytgiggeabadlhcaa
open Go.RowKit
set_option linter.unusedSimpArgs false
set_option linter.unusedVariables false

def cellIn (r c : Int) (xs : List Int) (i j : Int) : Bool := isMat r c xs && decide (0 ≤ i ∧ i < r ∧ 0 ≤ j ∧ j < c)
def cellOf (r c : Int) (xs : List Int) (i j : Int) : Int := if cellIn r c xs i j = true then xs.getD (i * c + j).toNat 0 else 0
theorem cell_no1 {r c i j : Int} {xs : List Int} (h : isMat r c xs = false) : cellOf r c xs i j = 0 := by simp [cellOf, cellIn, h]
theorem cell_no2 {r c i j : Int} {xs : List Int} (h : ¬ (0 ≤ i ∧ i < r ∧ 0 ≤ j ∧ j < c)) : cellOf r c xs i j = 0 := by
  simp only [cellOf, cellIn, decide_eq_false h, Bool.and_false, Bool.false_eq_true, if_false]
/-- Where a cell lies: its number, and that it is there. -/
theorem cell_at {r c i j : Int} {xs : List Int} (hm : isMat r c xs = true) (h : 0 ≤ i ∧ i < r ∧ 0 ≤ j ∧ j < c) :
    ∃ k : Nat, i * c + j = (k : Int) ∧ k < xs.length ∧ cellOf r c xs i j = xs.getD k 0 ∧ i * c = (k : Int) - j ∧ 0 ≤ i * c ∧ i * c ≤ 576 := by
  obtain ⟨h1, h2, h3, h4, h5, _, h6⟩ := isMat_t hm
  obtain ⟨g1, g2, g3, g4⟩ := h
  have h7 : 0 ≤ i * c := Int.mul_nonneg g1 h3
  have h8 : (i + 1) * c ≤ r * c := Int.mul_le_mul_of_nonneg_right (by omega) h3
  have h9 : (i + 1) * c = i * c + c := by rw [Int.add_mul, Int.one_mul]
  refine ⟨(i * c + j).toNat, by omega, by omega, ?_, by omega, h7, by omega⟩
  simp only [cellOf, cellIn, hm, decide_eq_true (show 0 ≤ i ∧ i < r ∧ 0 ≤ j ∧ j < c from ⟨g1, g2, g3, g4⟩), Bool.and_self, if_true]

/-- The program's own look at a cell that is there. -/
theorem implAt (r c i j : Int) (k : Nat) (x : Int) (A : Option Addr) (cap : Nat) (xs : List Int) (w : World) (hA : SlI w A xs) (hn : xs.length ≤ 1048576)
    (hk : Hid (i * c = (k : Int) - j)) (hlt : k < xs.length) (hx : Hid (xs.getD k 0 = x)) (h0 : 0 ≤ i * c) (h1 : i * c ≤ 1048576) (j0 : 0 ≤ j) (j1 : j ≤ 1048576) :
    Calls Try.prog 41 #[mv r c (.slice A xs.length cap), .int .i64 i, .int .i64 j] w fun e w' => e = .returned (.int .i64 x) ∧ Below w.heap.size w w' := by
  obtain ⟨g, off, rfl, hc⟩ := hA (by omega)
  have hcx := hc k hlt
  rw [hx.out] at hcx
  have hgb : g < w.heap.size := World.block_lt_of_cell? _ _ hcx
  clear hc
  have hik : i * c + j = (k : Int) := by have := hk.out; omega
  go_enter Try.func41, Try.ntmps41
  go_wp2
  go_returns
  exact ⟨rfl, (by repeat' (first | exact Below.refl _ _ | (refine Below.alloc ?_ ?_ _) | (refine Below.setCell ?_ ?_ _) | (refine Below.drew ?_) | (refine below_drewN ?_ _) | (refine Below.trans ?_ (Below.mono (by assumption) ?_)) | omega | (simp only [World.size_alloc, World.size_setCell, World.size_drew, size_drewN]; omega)))⟩

set_option maxHeartbeats 1000000 in
theorem implCellOf (r c : Int) (A : Option Addr) (cap : Nat) (xs : List Int) (i j : Int) (w : World) (hA : SlI w A xs) (hn : xs.length ≤ 1048576) :
    Calls Try.prog 24 #[mv r c (.slice A xs.length cap), .int .i64 i, .int .i64 j] w fun e w' => e = .returned (.int .i64 (cellOf r c xs i j)) ∧ Below w.heap.size w w' := by
  have HA := hide hA; clear hA
  rcases Bool.eq_false_or_eq_true (isMat r c xs) with hm | hm
  · by_cases h : 0 ≤ i ∧ i < r ∧ 0 ≤ j ∧ j < c
    · obtain ⟨k, hk, hlt, hcell, hic, h0, h1⟩ := cell_at hm h
      obtain ⟨g1, g2, g3, g4⟩ := h
      obtain ⟨m1, m2, m3, m4, _, _, _⟩ := isMat_t hm
      have HX := hide hcell.symm
      have HK := hide hic
      clear hk hcell hic
      go_enter Try.func24, Try.ntmps24
      go_wp2_with (first
        | (go_at_call 16; refine (implIsMatrix r c A cap xs _ (SlI.below HA.out (by repeat' (first | exact Below.refl _ _ | (refine Below.alloc ?_ ?_ _) | (refine Below.setCell ?_ ?_ _) | (refine Below.drew ?_) | (refine below_drewN ?_ _) | (refine Below.trans ?_ (Below.mono (by assumption) ?_)) | omega | (simp only [World.size_alloc, World.size_setCell, World.size_drew, size_drewN]; omega)))) hn).mono ?_; rintro e w1 ⟨rfl, hb⟩; obtain ⟨hc, hf⟩ := bcell hb; have hz := hb.size; (try simp only [World.size_alloc, World.size_setCell, World.size_drew, size_drewN] at hz); (first | have hs := up3 hz | have hs := up2 hz | have hs := up1 hz | have hs := up0 hz); (try have q10 := hs _ q9); (try have q9 := hs _ q8); (try have q8 := hs _ q7); (try have q7 := hs _ q6); (try have q6 := hs _ q5); (try have q5 := hs _ q4); (try have q4 := hs _ q3); (try have q3 := hs _ q2); (try have q2 := hs _ q1); (try have p7 := hs _ p6); (try have p6 := hs _ p5); (try have p5 := hs _ p4); (try have p4 := hs _ p3); (try have p3 := hs _ p2); (try have p2 := hs _ p1); (try have q1 := new1 hz); (try have p1 := new2 hz); (try have r1 := new3 hz))
        | (go_at_call 41; refine (implAt r c i j k _ A cap xs _ (SlI.below HA.out (by repeat' (first | exact Below.refl _ _ | (refine Below.alloc ?_ ?_ _) | (refine Below.setCell ?_ ?_ _) | (refine Below.drew ?_) | (refine below_drewN ?_ _) | (refine Below.trans ?_ (Below.mono (by assumption) ?_)) | omega | (simp only [World.size_alloc, World.size_setCell, World.size_drew, size_drewN]; omega)))) hn HK hlt HX h0 (by omega) g3 (by omega)).mono ?_; rintro e w1 ⟨rfl, hb⟩; obtain ⟨hc, hf⟩ := bcell hb; have hz := hb.size; (try simp only [World.size_alloc, World.size_setCell, World.size_drew, size_drewN] at hz); (first | have hs := up3 hz | have hs := up2 hz | have hs := up1 hz | have hs := up0 hz); (try have q10 := hs _ q9); (try have q9 := hs _ q8); (try have q8 := hs _ q7); (try have q7 := hs _ q6); (try have q6 := hs _ q5); (try have q5 := hs _ q4); (try have q4 := hs _ q3); (try have q3 := hs _ q2); (try have q2 := hs _ q1); (try have p7 := hs _ p6); (try have p6 := hs _ p5); (try have p5 := hs _ p4); (try have p4 := hs _ p3); (try have p3 := hs _ p2); (try have p2 := hs _ p1); (try have q1 := new1 hz); (try have p1 := new2 hz); (try have r1 := new3 hz)))
      go_returns
      exact ⟨rfl, (by repeat' (first | exact Below.refl _ _ | (refine Below.alloc ?_ ?_ _) | (refine Below.setCell ?_ ?_ _) | (refine Below.drew ?_) | (refine below_drewN ?_ _) | (refine Below.trans ?_ (Below.mono (by assumption) ?_)) | omega | (simp only [World.size_alloc, World.size_setCell, World.size_drew, size_drewN]; omega)))⟩
    · have HF := hide (cell_no2 (xs := xs) h)
      have HI := hide h; clear h
      go_enter Try.func24, Try.ntmps24
      go_wp2_with (go_at_call 16; refine (implIsMatrix r c A cap xs _ (SlI.below HA.out (by repeat' (first | exact Below.refl _ _ | (refine Below.alloc ?_ ?_ _) | (refine Below.setCell ?_ ?_ _) | (refine Below.drew ?_) | (refine below_drewN ?_ _) | (refine Below.trans ?_ (Below.mono (by assumption) ?_)) | omega | (simp only [World.size_alloc, World.size_setCell, World.size_drew, size_drewN]; omega)))) hn).mono ?_; rintro e w1 ⟨rfl, hb⟩; obtain ⟨hc, hf⟩ := bcell hb; have hz := hb.size; (try simp only [World.size_alloc, World.size_setCell, World.size_drew, size_drewN] at hz); (first | have hs := up3 hz | have hs := up2 hz | have hs := up1 hz | have hs := up0 hz); (try have q10 := hs _ q9); (try have q9 := hs _ q8); (try have q8 := hs _ q7); (try have q7 := hs _ q6); (try have q6 := hs _ q5); (try have q5 := hs _ q4); (try have q4 := hs _ q3); (try have q3 := hs _ q2); (try have q2 := hs _ q1); (try have p7 := hs _ p6); (try have p6 := hs _ p5); (try have p5 := hs _ p4); (try have p4 := hs _ p3); (try have p3 := hs _ p2); (try have p2 := hs _ p1); (try have q1 := new1 hz); (try have p1 := new2 hz); (try have r1 := new3 hz))
      all_goals first
        | (exfalso; have := HI.out; omega)
        | (go_returns; exact ⟨ret_int HF.out.symm, (by repeat' (first | exact Below.refl _ _ | (refine Below.alloc ?_ ?_ _) | (refine Below.setCell ?_ ?_ _) | (refine Below.drew ?_) | (refine below_drewN ?_ _) | (refine Below.trans ?_ (Below.mono (by assumption) ?_)) | omega | (simp only [World.size_alloc, World.size_setCell, World.size_drew, size_drewN]; omega)))⟩)
  · have HF := hide (cell_no1 (i := i) (j := j) hm)
    go_enter Try.func24, Try.ntmps24
    go_wp2_with (go_at_call 16; refine (implIsMatrix r c A cap xs _ (SlI.below HA.out (by repeat' (first | exact Below.refl _ _ | (refine Below.alloc ?_ ?_ _) | (refine Below.setCell ?_ ?_ _) | (refine Below.drew ?_) | (refine below_drewN ?_ _) | (refine Below.trans ?_ (Below.mono (by assumption) ?_)) | omega | (simp only [World.size_alloc, World.size_setCell, World.size_drew, size_drewN]; omega)))) hn).mono ?_; rintro e w1 ⟨rfl, hb⟩; obtain ⟨hc, hf⟩ := bcell hb; have hz := hb.size; (try simp only [World.size_alloc, World.size_setCell, World.size_drew, size_drewN] at hz); (first | have hs := up3 hz | have hs := up2 hz | have hs := up1 hz | have hs := up0 hz); (try have q10 := hs _ q9); (try have q9 := hs _ q8); (try have q8 := hs _ q7); (try have q7 := hs _ q6); (try have q6 := hs _ q5); (try have q5 := hs _ q4); (try have q4 := hs _ q3); (try have q3 := hs _ q2); (try have q2 := hs _ q1); (try have p7 := hs _ p6); (try have p6 := hs _ p5); (try have p5 := hs _ p4); (try have p4 := hs _ p3); (try have p3 := hs _ p2); (try have p2 := hs _ p1); (try have q1 := new1 hz); (try have p1 := new2 hz); (try have r1 := new3 hz))
    go_returns
    exact ⟨ret_int HF.out.symm, (by repeat' (first | exact Below.refl _ _ | (refine Below.alloc ?_ ?_ _) | (refine Below.setCell ?_ ?_ _) | (refine Below.drew ?_) | (refine below_drewN ?_ _) | (refine Below.trans ?_ (Below.mono (by assumption) ?_)) | omega | (simp only [World.size_alloc, World.size_setCell, World.size_drew, size_drewN]; omega)))⟩

set_option maxHeartbeats 1000000 in
theorem specCellOf (r c : Int) (A : Option Addr) (cap : Nat) (xs : List Int) (i j : Int) (w : World) (hA : SlI w A xs) (hn : xs.length ≤ 1048576) :
    Calls Try.prog 23 #[mv r c (.slice A xs.length cap), .int .i64 i, .int .i64 j] w fun e w' => e = .returned (.int .i64 (cellOf r c xs i j)) ∧ Below w.heap.size w w' := by
  have HA := hide hA; clear hA
  rcases Bool.eq_false_or_eq_true (isMat r c xs) with hm | hm
  · obtain ⟨m1, m2, m3, m4, _, _, _⟩ := isMat_t hm
    by_cases h : 0 ≤ i ∧ i < r ∧ 0 ≤ j ∧ j < c
    · obtain ⟨k, hk, hlt, hcell, hic, h0, h1⟩ := cell_at hm h
      obtain ⟨g1, g2, g3, g4⟩ := h
      have d1 : decide (0 ≤ i ∧ i ≤ r - 1) = true := decide_eq_true ⟨g1, by omega⟩
      have d2 : decide (0 ≤ j ∧ j ≤ c - 1) = true := decide_eq_true ⟨g3, by omega⟩
      obtain ⟨g, off, rfl, hc⟩ := HA.out (by omega)
      have hcx := hc k hlt
      rw [← hcell] at hcx
      have hgb : g < w.heap.size := World.block_lt_of_cell? _ _ hcx
      have hgb' : g < w.heap.size + 1 := by omega
      obtain ⟨x, hx⟩ : ∃ x, cellOf r c xs i j = x := ⟨_, rfl⟩
      rw [hx] at hcx
      have HX := hide hx
      clear hc hic hcell hx g1 g2 g3 g4
      go_enter Try.func23, Try.ntmps23
      go_wp2_with (first
        | (go_at_call 15; refine (specIsMatrix r c _ cap xs _ (SlI.below HA.out (by repeat' (first | exact Below.refl _ _ | (refine Below.alloc ?_ ?_ _) | (refine Below.setCell ?_ ?_ _) | (refine Below.drew ?_) | (refine below_drewN ?_ _) | (refine Below.trans ?_ (Below.mono (by assumption) ?_)) | omega | (simp only [World.size_alloc, World.size_setCell, World.size_drew, size_drewN]; omega)))) hn).mono ?_; rintro e w1 ⟨rfl, hb⟩; obtain ⟨hc, hf⟩ := bcell hb; have hz := hb.size; (try simp only [World.size_alloc, World.size_setCell, World.size_drew, size_drewN] at hz); (first | have hs := up3 hz | have hs := up2 hz | have hs := up1 hz | have hs := up0 hz); (try have q10 := hs _ q9); (try have q9 := hs _ q8); (try have q8 := hs _ q7); (try have q7 := hs _ q6); (try have q6 := hs _ q5); (try have q5 := hs _ q4); (try have q4 := hs _ q3); (try have q3 := hs _ q2); (try have q2 := hs _ q1); (try have p7 := hs _ p6); (try have p6 := hs _ p5); (try have p5 := hs _ p4); (try have p4 := hs _ p3); (try have p3 := hs _ p2); (try have p2 := hs _ p1); (try have q1 := new1 hz); (try have p1 := new2 hz); (try have r1 := new3 hz); have hg1 := hs g (by first | omega | (simp; omega)))
        | (go_at_call 35; refine (specIn _ _ _ _).mono ?_; rintro e w' ⟨rfl, rfl⟩))
      go_returns
      exact ⟨ret_int HX.out.symm, (by repeat' (first | exact Below.refl _ _ | (refine Below.alloc ?_ ?_ _) | (refine Below.setCell ?_ ?_ _) | (refine Below.drew ?_) | (refine below_drewN ?_ _) | (refine Below.trans ?_ (Below.mono (by assumption) ?_)) | omega | (simp only [World.size_alloc, World.size_setCell, World.size_drew, size_drewN]; omega)))⟩
    · have HF := hide (cell_no2 (xs := xs) h)
      by_cases h1 : 0 ≤ i ∧ i ≤ r - 1
      · have d1 : decide (0 ≤ i ∧ i ≤ r - 1) = true := decide_eq_true h1
        have d2 : decide (0 ≤ j ∧ j ≤ c - 1) = false := decide_eq_false (fun h2 => h ⟨h1.1, by omega, h2.1, by omega⟩)
        clear h h1
        go_enter Try.func23, Try.ntmps23
        go_wp2_with (first
          | (go_at_call 15; refine (specIsMatrix r c A cap xs _ (SlI.below HA.out (by repeat' (first | exact Below.refl _ _ | (refine Below.alloc ?_ ?_ _) | (refine Below.setCell ?_ ?_ _) | (refine Below.drew ?_) | (refine below_drewN ?_ _) | (refine Below.trans ?_ (Below.mono (by assumption) ?_)) | omega | (simp only [World.size_alloc, World.size_setCell, World.size_drew, size_drewN]; omega)))) hn).mono ?_; rintro e w1 ⟨rfl, hb⟩; obtain ⟨hc, hf⟩ := bcell hb; have hz := hb.size; (try simp only [World.size_alloc, World.size_setCell, World.size_drew, size_drewN] at hz); (first | have hs := up3 hz | have hs := up2 hz | have hs := up1 hz | have hs := up0 hz); (try have q10 := hs _ q9); (try have q9 := hs _ q8); (try have q8 := hs _ q7); (try have q7 := hs _ q6); (try have q6 := hs _ q5); (try have q5 := hs _ q4); (try have q4 := hs _ q3); (try have q3 := hs _ q2); (try have q2 := hs _ q1); (try have p7 := hs _ p6); (try have p6 := hs _ p5); (try have p5 := hs _ p4); (try have p4 := hs _ p3); (try have p3 := hs _ p2); (try have p2 := hs _ p1); (try have q1 := new1 hz); (try have p1 := new2 hz); (try have r1 := new3 hz))
          | (go_at_call 35; refine (specIn _ _ _ _).mono ?_; rintro e w' ⟨rfl, rfl⟩))
        go_returns
        exact ⟨ret_int HF.out.symm, (by repeat' (first | exact Below.refl _ _ | (refine Below.alloc ?_ ?_ _) | (refine Below.setCell ?_ ?_ _) | (refine Below.drew ?_) | (refine below_drewN ?_ _) | (refine Below.trans ?_ (Below.mono (by assumption) ?_)) | omega | (simp only [World.size_alloc, World.size_setCell, World.size_drew, size_drewN]; omega)))⟩
      · have d1 : decide (0 ≤ i ∧ i ≤ r - 1) = false := decide_eq_false h1
        clear h h1
        go_enter Try.func23, Try.ntmps23
        go_wp2_with (first
          | (go_at_call 15; refine (specIsMatrix r c A cap xs _ (SlI.below HA.out (by repeat' (first | exact Below.refl _ _ | (refine Below.alloc ?_ ?_ _) | (refine Below.setCell ?_ ?_ _) | (refine Below.drew ?_) | (refine below_drewN ?_ _) | (refine Below.trans ?_ (Below.mono (by assumption) ?_)) | omega | (simp only [World.size_alloc, World.size_setCell, World.size_drew, size_drewN]; omega)))) hn).mono ?_; rintro e w1 ⟨rfl, hb⟩; obtain ⟨hc, hf⟩ := bcell hb; have hz := hb.size; (try simp only [World.size_alloc, World.size_setCell, World.size_drew, size_drewN] at hz); (first | have hs := up3 hz | have hs := up2 hz | have hs := up1 hz | have hs := up0 hz); (try have q10 := hs _ q9); (try have q9 := hs _ q8); (try have q8 := hs _ q7); (try have q7 := hs _ q6); (try have q6 := hs _ q5); (try have q5 := hs _ q4); (try have q4 := hs _ q3); (try have q3 := hs _ q2); (try have q2 := hs _ q1); (try have p7 := hs _ p6); (try have p6 := hs _ p5); (try have p5 := hs _ p4); (try have p4 := hs _ p3); (try have p3 := hs _ p2); (try have p2 := hs _ p1); (try have q1 := new1 hz); (try have p1 := new2 hz); (try have r1 := new3 hz))
          | (go_at_call 35; refine (specIn _ _ _ _).mono ?_; rintro e w' ⟨rfl, rfl⟩))
        go_returns
        exact ⟨ret_int HF.out.symm, (by repeat' (first | exact Below.refl _ _ | (refine Below.alloc ?_ ?_ _) | (refine Below.setCell ?_ ?_ _) | (refine Below.drew ?_) | (refine below_drewN ?_ _) | (refine Below.trans ?_ (Below.mono (by assumption) ?_)) | omega | (simp only [World.size_alloc, World.size_setCell, World.size_drew, size_drewN]; omega)))⟩
  · have HF := hide (cell_no1 (i := i) (j := j) hm)
    go_enter Try.func23, Try.ntmps23
    go_wp2_with (go_at_call 15; refine (specIsMatrix r c A cap xs _ (SlI.below HA.out (by repeat' (first | exact Below.refl _ _ | (refine Below.alloc ?_ ?_ _) | (refine Below.setCell ?_ ?_ _) | (refine Below.drew ?_) | (refine below_drewN ?_ _) | (refine Below.trans ?_ (Below.mono (by assumption) ?_)) | omega | (simp only [World.size_alloc, World.size_setCell, World.size_drew, size_drewN]; omega)))) hn).mono ?_; rintro e w1 ⟨rfl, hb⟩; obtain ⟨hc, hf⟩ := bcell hb; have hz := hb.size; (try simp only [World.size_alloc, World.size_setCell, World.size_drew, size_drewN] at hz); (first | have hs := up3 hz | have hs := up2 hz | have hs := up1 hz | have hs := up0 hz); (try have q10 := hs _ q9); (try have q9 := hs _ q8); (try have q8 := hs _ q7); (try have q7 := hs _ q6); (try have q6 := hs _ q5); (try have q5 := hs _ q4); (try have q4 := hs _ q3); (try have q3 := hs _ q2); (try have q2 := hs _ q1); (try have p7 := hs _ p6); (try have p6 := hs _ p5); (try have p5 := hs _ p4); (try have p4 := hs _ p3); (try have p3 := hs _ p2); (try have p2 := hs _ p1); (try have q1 := new1 hz); (try have p1 := new2 hz); (try have r1 := new3 hz))
    go_returns
    exact ⟨ret_int HF.out.symm, (by repeat' (first | exact Below.refl _ _ | (refine Below.alloc ?_ ?_ _) | (refine Below.setCell ?_ ?_ _) | (refine Below.drew ?_) | (refine below_drewN ?_ _) | (refine Below.trans ?_ (Below.mono (by assumption) ?_)) | omega | (simp only [World.size_alloc, World.size_setCell, World.size_drew, size_drewN]; omega)))⟩
end Go.Proofs.Ytgiggeabadlhcaa
