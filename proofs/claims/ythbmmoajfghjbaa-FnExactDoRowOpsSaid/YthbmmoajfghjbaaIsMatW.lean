/- The walks of IsMatrix, the program's and the reference's. -/
import Derived.Test.YthbmmoajfghjbaaMatW
namespace Go.Proofs.Ythbmmoajfghjbaa
open Go.RowKit
set_option linter.unusedSimpArgs false
set_option linter.unusedVariables false

def isMat (r c : Int) (xs : List Int) : Bool := decide (0 ≤ r ∧ r ≤ 24 ∧ 0 ≤ c ∧ c ≤ 24 ∧ (xs.length : Int) = r * c) && xs.all isNum
theorem isMat_t {r c : Int} {xs : List Int} (h : isMat r c xs = true) : 0 ≤ r ∧ r ≤ 24 ∧ 0 ≤ c ∧ c ≤ 24 ∧ (xs.length : Int) = r * c ∧ (∀ x ∈ xs, isNum x = true) ∧ xs.length ≤ 576 := by
  simp only [isMat, Bool.and_eq_true, decide_eq_true_eq, List.all_eq_true] at h
  obtain ⟨⟨h1, h2, h3, h4, h5⟩, h6⟩ := h
  refine ⟨h1, h2, h3, h4, h5, h6, ?_⟩
  have : r * c ≤ 24 * 24 := Int.mul_le_mul h2 h4 h3 (by omega)
  omega
theorem isMat_in {r c : Int} {xs : List Int} (h : 0 ≤ r ∧ r ≤ 24 ∧ 0 ≤ c ∧ c ≤ 24 ∧ (xs.length : Int) = r * c) : xs.all isNum = isMat r c xs := by
  simp only [isMat, decide_eq_true h, Bool.true_and]
theorem isMat_out {r c : Int} {xs : List Int} (h : ¬ (0 ≤ r ∧ r ≤ 24 ∧ 0 ≤ c ∧ c ≤ 24 ∧ (xs.length : Int) = r * c)) : isMat r c xs = false := by
  simp only [isMat, decide_eq_false h, Bool.false_and]
theorem all_step {xs : List Int} {k : Nat} (h : k < xs.length) (hp : (xs.take k).all isNum = true) (hx : isNum (xs.getD k 0) = true) : (xs.take (k + 1)).all isNum = true := by
  rw [List.take_succ_eq_append_getElem h, List.all_append, hp]
  simp only [List.getD, List.getElem?_eq_getElem h, Option.getD_some] at hx
  simp [hx]
theorem all_no {xs : List Int} {k : Nat} (h : k < xs.length) (hx : isNum (xs.getD k 0) = false) : xs.all isNum = false := by
  simp only [List.getD, List.getElem?_eq_getElem h, Option.getD_some] at hx
  rw [List.all_eq_false]
  exact ⟨_, List.getElem_mem h, by simp [hx]⟩

theorem areNumbers (A : Option Addr) (c : Nat) (xs : List Int) (w : World) (hA : SlI w A xs) (hn : xs.length ≤ 1048576) :
    Calls Try.prog 49 #[.slice A xs.length c] w fun e w' => e = .returned (.bool (xs.all isNum)) ∧ w = w' := by
  have HA := hide hA; clear hA
  go_enter Try.func49, Try.ntmps49
  go_wp2
  go_loop [7] (fun i => ∃ k : Nat, k ≤ xs.length ∧ i = .int .i64 k ∧ Hid ((xs.take k).all isNum = true)) (fun i => xs.length - (intOf i).toNat)
  case atStart => exact ⟨0, Nat.zero_le _, rfl, by simp [Hid]⟩
  case round =>
    obtain ⟨k, hk, rfl, hp⟩ := hrel
    by_cases hlt : k < xs.length
    · obtain ⟨g, off, rfl, hc⟩ := HA.out (by omega)
      have hcx := hc k hlt
      clear hc
      obtain ⟨x, hx⟩ : ∃ x, xs.getD k 0 = x := ⟨_, rfl⟩
      rw [hx] at hcx
      rcases Bool.eq_false_or_eq_true (isNum x) with hi | hi
      · have HS : Hid ((xs.take (k + 1)).all isNum = true) := all_step hlt hp.out (by rw [hx]; exact hi)
        clear hx
        go_wp2_with (go_at_call 50; refine (implIsNumber _ _).mono ?_; rintro e w' ⟨rfl, rfl⟩)
        go_round
        case rel => exact ⟨k + 1, by omega, by go_num, HS⟩
        case measure => simp [intOf]; omega
      · have HS : Hid (xs.all isNum = false) := all_no hlt (by rw [hx]; exact hi)
        clear hx
        go_wp2_with (go_at_call 50; refine (implIsNumber _ _).mono ?_; rintro e w' ⟨rfl, rfl⟩)
        go_returns
        exact ⟨ret_bool HS.out.symm, rfl⟩
    · have HS : Hid (xs.all isNum = true) := by have := hp.out; rwa [List.take_of_length_le (by omega)] at this
      go_wp2
      go_returns
      exact ⟨ret_bool HS.out.symm, rfl⟩
set_option maxHeartbeats 1000000 in
theorem implIsMatrix (r c : Int) (A : Option Addr) (cap : Nat) (xs : List Int) (w : World) (hA : SlI w A xs) (hn : xs.length ≤ 1048576) :
    Calls Try.prog 36 #[mv r c (.slice A xs.length cap)] w fun e w' => e = .returned (.bool (isMat r c xs)) ∧ Below w.heap.size w w' := by
  have HA := hide hA; clear hA
  by_cases h : 0 ≤ r ∧ r ≤ 24 ∧ 0 ≤ c ∧ c ≤ 24
  · obtain ⟨h1, h2, h3, h4⟩ := h
    have h6 : r * c ≤ 24 * 24 := Int.mul_le_mul h2 h4 h3 (by omega)
    have h7 : 0 ≤ r * c := Int.mul_nonneg h1 h3
    by_cases h5 : (xs.length : Int) = r * c
    · have HF := hide (isMat_in ⟨h1, h2, h3, h4, h5⟩)
      have e1 : ((xs.length : Int) == r * c) = true := by simpa using h5
      have H5 := hide h5; clear h5
      go_enter Try.func36, Try.ntmps36
      go_wp2_with (go_at_call 49; refine (areNumbers A cap xs _ (SlI.below HA.out (by repeat' (first | exact Below.refl _ _ | (refine Below.alloc ?_ ?_ _) | (refine Below.setCell ?_ ?_ _) | (refine Below.drew ?_) | (refine below_drewN ?_ _) | (refine Below.trans ?_ (Below.mono (by assumption) ?_)) | omega | (simp only [World.size_alloc, World.size_setCell, World.size_drew, size_drewN]; omega)))) hn).mono ?_; rintro e w' ⟨rfl, rfl⟩)
      go_returns
      exact ⟨ret_bool HF.out, (by repeat' (first | exact Below.refl _ _ | (refine Below.alloc ?_ ?_ _) | (refine Below.setCell ?_ ?_ _) | (refine Below.drew ?_) | (refine below_drewN ?_ _) | (refine Below.trans ?_ (Below.mono (by assumption) ?_)) | omega | (simp only [World.size_alloc, World.size_setCell, World.size_drew, size_drewN]; omega)))⟩
    · have HF := hide (isMat_out (xs := xs) (r := r) (c := c) (fun hh => h5 hh.2.2.2.2))
      have e1 : ((xs.length : Int) == r * c) = false := by simpa using h5
      go_enter Try.func36, Try.ntmps36
      go_wp2_with (go_at_call 49; refine (areNumbers A cap xs _ (SlI.below HA.out (by repeat' (first | exact Below.refl _ _ | (refine Below.alloc ?_ ?_ _) | (refine Below.setCell ?_ ?_ _) | (refine Below.drew ?_) | (refine below_drewN ?_ _) | (refine Below.trans ?_ (Below.mono (by assumption) ?_)) | omega | (simp only [World.size_alloc, World.size_setCell, World.size_drew, size_drewN]; omega)))) hn).mono ?_; rintro e w' ⟨rfl, rfl⟩)
      go_returns
      exact ⟨ret_bool HF.out.symm, (by repeat' (first | exact Below.refl _ _ | (refine Below.alloc ?_ ?_ _) | (refine Below.setCell ?_ ?_ _) | (refine Below.drew ?_) | (refine below_drewN ?_ _) | (refine Below.trans ?_ (Below.mono (by assumption) ?_)) | omega | (simp only [World.size_alloc, World.size_setCell, World.size_drew, size_drewN]; omega)))⟩
  · have HF := hide (isMat_out (xs := xs) (r := r) (c := c) (fun hh => h ⟨hh.1, hh.2.1, hh.2.2.1, hh.2.2.2.1⟩))
    have HI := hide h; clear h
    go_enter Try.func36, Try.ntmps36
    go_wp2_with (go_at_call 49; refine (areNumbers A cap xs _ (SlI.below HA.out (by repeat' (first | exact Below.refl _ _ | (refine Below.alloc ?_ ?_ _) | (refine Below.setCell ?_ ?_ _) | (refine Below.drew ?_) | (refine below_drewN ?_ _) | (refine Below.trans ?_ (Below.mono (by assumption) ?_)) | omega | (simp only [World.size_alloc, World.size_setCell, World.size_drew, size_drewN]; omega)))) hn).mono ?_; rintro e w' ⟨rfl, rfl⟩)
    all_goals first
      | (exfalso; have := HI.out; omega)
      | (go_returns; exact ⟨ret_bool HF.out.symm, (by repeat' (first | exact Below.refl _ _ | (refine Below.alloc ?_ ?_ _) | (refine Below.setCell ?_ ?_ _) | (refine Below.drew ?_) | (refine below_drewN ?_ _) | (refine Below.trans ?_ (Below.mono (by assumption) ?_)) | omega | (simp only [World.size_alloc, World.size_setCell, World.size_drew, size_drewN]; omega)))⟩)
set_option maxHeartbeats 1000000 in
theorem specIsMatrix (r c : Int) (A : Option Addr) (cap : Nat) (xs : List Int) (w : World) (hA : SlI w A xs) (hn : xs.length ≤ 1048576) :
    Calls Try.prog 30 #[mv r c (.slice A xs.length cap)] w fun e w' => e = .returned (.bool (isMat r c xs)) ∧ Below w.heap.size w w' := by
  have HA := hide hA; clear hA
  by_cases h : (0 ≤ r ∧ r ≤ 24) ∧ (0 ≤ c ∧ c ≤ 24)
  · obtain ⟨⟨h1, h2⟩, h3, h4⟩ := h
    have d1 : decide (0 ≤ r ∧ r ≤ 24) = true := decide_eq_true ⟨h1, h2⟩
    have d2 : decide (0 ≤ c ∧ c ≤ 24) = true := decide_eq_true ⟨h3, h4⟩
    have h6 : r * c ≤ 24 * 24 := Int.mul_le_mul h2 h4 h3 (by omega)
    have h7 : 0 ≤ r * c := Int.mul_nonneg h1 h3
    by_cases h5 : (xs.length : Int) = r * c
    · have HF := hide (isMat_in ⟨h1, h2, h3, h4, h5⟩)
      have e1 : ((xs.length : Int) != r * c) = false := by simpa using h5
      have H5 := hide h5; clear h5
      go_enter Try.func30, Try.ntmps30
      go_wp2_with (go_at_call 45; refine (specIn _ _ _ _).mono ?_; rintro e w' ⟨rfl, rfl⟩)
      go_loop [3] (fun i => ∃ k : Nat, k ≤ xs.length ∧ i = .int .i64 k ∧ Hid ((xs.take k).all isNum = true)) (fun i => xs.length - (intOf i).toNat)
      case atStart => exact ⟨0, Nat.zero_le _, rfl, by simp [Hid]⟩
      case round =>
        obtain ⟨k, hk, rfl, hp⟩ := hrel
        by_cases hlt : k < xs.length
        · obtain ⟨g, off, rfl, hc⟩ := HA.out (by omega)
          have hcx := hc k hlt
          have hgb : g < w.heap.size := World.block_lt_of_cell? _ _ hcx
          clear hc
          obtain ⟨x, hx⟩ : ∃ x, xs.getD k 0 = x := ⟨_, rfl⟩
          rw [hx] at hcx
          rcases Bool.eq_false_or_eq_true (isNum x) with hi | hi
          · have HS : Hid ((xs.take (k + 1)).all isNum = true) := all_step hlt hp.out (by rw [hx]; exact hi)
            clear hx
            go_wp2_with (go_at_call 46; refine (specIsNumber _ _).mono ?_; rintro e w' ⟨rfl, rfl⟩)
            go_round
            case rel => exact ⟨k + 1, by omega, by go_num, HS⟩
            case measure => simp [intOf]; omega
          · have HS : Hid (xs.all isNum = false) := all_no hlt (by rw [hx]; exact hi)
            clear hx
            go_wp2_with (go_at_call 46; refine (specIsNumber _ _).mono ?_; rintro e w' ⟨rfl, rfl⟩)
            go_returns
            exact ⟨ret_bool (by rw [← HF.out, HS.out]), (by repeat' (first | exact Below.refl _ _ | (refine Below.alloc ?_ ?_ _) | (refine Below.setCell ?_ ?_ _) | (refine Below.drew ?_) | (refine below_drewN ?_ _) | (refine Below.trans ?_ (Below.mono (by assumption) ?_)) | omega | (simp only [World.size_alloc, World.size_setCell, World.size_drew, size_drewN]; omega)))⟩
        · have HS : Hid (xs.all isNum = true) := by have := hp.out; rwa [List.take_of_length_le (by omega)] at this
          go_wp2
          go_returns
          exact ⟨ret_bool (by rw [← HF.out, HS.out]), (by repeat' (first | exact Below.refl _ _ | (refine Below.alloc ?_ ?_ _) | (refine Below.setCell ?_ ?_ _) | (refine Below.drew ?_) | (refine below_drewN ?_ _) | (refine Below.trans ?_ (Below.mono (by assumption) ?_)) | omega | (simp only [World.size_alloc, World.size_setCell, World.size_drew, size_drewN]; omega)))⟩
    · have HF := hide (isMat_out (xs := xs) (r := r) (c := c) (fun hh => h5 hh.2.2.2.2))
      have e1 : ((xs.length : Int) != r * c) = true := by simpa using h5
      go_enter Try.func30, Try.ntmps30
      go_wp2_with (go_at_call 45; refine (specIn _ _ _ _).mono ?_; rintro e w' ⟨rfl, rfl⟩)
      go_returns
      exact ⟨ret_bool HF.out.symm, (by repeat' (first | exact Below.refl _ _ | (refine Below.alloc ?_ ?_ _) | (refine Below.setCell ?_ ?_ _) | (refine Below.drew ?_) | (refine below_drewN ?_ _) | (refine Below.trans ?_ (Below.mono (by assumption) ?_)) | omega | (simp only [World.size_alloc, World.size_setCell, World.size_drew, size_drewN]; omega)))⟩
  · have HF := hide (isMat_out (xs := xs) (r := r) (c := c) (fun hh => h ⟨⟨hh.1, hh.2.1⟩, hh.2.2.1, hh.2.2.2.1⟩))
    by_cases h1 : 0 ≤ r ∧ r ≤ 24
    · have d1 : decide (0 ≤ r ∧ r ≤ 24) = true := decide_eq_true h1
      have d2 : decide (0 ≤ c ∧ c ≤ 24) = false := decide_eq_false (fun h2 => h ⟨h1, h2⟩)
      clear h h1
      go_enter Try.func30, Try.ntmps30
      go_wp2_with (go_at_call 45; refine (specIn _ _ _ _).mono ?_; rintro e w' ⟨rfl, rfl⟩)
      go_returns
      exact ⟨ret_bool HF.out.symm, (by repeat' (first | exact Below.refl _ _ | (refine Below.alloc ?_ ?_ _) | (refine Below.setCell ?_ ?_ _) | (refine Below.drew ?_) | (refine below_drewN ?_ _) | (refine Below.trans ?_ (Below.mono (by assumption) ?_)) | omega | (simp only [World.size_alloc, World.size_setCell, World.size_drew, size_drewN]; omega)))⟩
    · have d1 : decide (0 ≤ r ∧ r ≤ 24) = false := decide_eq_false h1
      clear h h1
      go_enter Try.func30, Try.ntmps30
      go_wp2_with (go_at_call 45; refine (specIn _ _ _ _).mono ?_; rintro e w' ⟨rfl, rfl⟩)
      go_returns
      exact ⟨ret_bool HF.out.symm, (by repeat' (first | exact Below.refl _ _ | (refine Below.alloc ?_ ?_ _) | (refine Below.setCell ?_ ?_ _) | (refine Below.drew ?_) | (refine below_drewN ?_ _) | (refine Below.trans ?_ (Below.mono (by assumption) ?_)) | omega | (simp only [World.size_alloc, World.size_setCell, World.size_drew, size_drewN]; omega)))⟩
end Go.Proofs.Ythbmmoajfghjbaa
