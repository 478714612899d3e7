/- The walks of SameMatrix. -/
import Derived.Test.YtchlaebkigmfgaaMatW
import Derived.Deep.QuietTactic
import Derived.BigQuiet
namespace Go.Proofs.Ytchlaebkigmfgaa
open Go.RowKit
set_option linter.unusedSimpArgs false
set_option linter.unusedVariables false

def sameB (r c : Int) (xs : List Int) (r' c' : Int) (ys : List Int) : Bool := decide (r = r' ∧ c = c' ∧ xs = ys)
theorem take_same {xs ys : List Int} {k : Nat} (h : xs.take k = ys.take k) (h1 : k < xs.length) (h2 : k < ys.length) (he : xs.getD k 0 = ys.getD k 0) : xs.take (k + 1) = ys.take (k + 1) := by
  rw [List.take_succ_eq_append_getElem h1, List.take_succ_eq_append_getElem h2, h]
  simp only [List.getD, List.getElem?_eq_getElem h1, List.getElem?_eq_getElem h2, Option.getD_some] at he
  rw [he]
theorem not_same {xs ys : List Int} {k : Nat} (he : xs.getD k 0 ≠ ys.getD k 0) : ¬ xs = ys := fun e => he (by rw [e])

set_option maxHeartbeats 1000000 in
theorem slicesEqual (A B : Option Addr) (p q : Nat) (xs ys : List Int) (w : World) (hA : SlI w A xs) (hB : SlI w B ys) (hn : xs.length ≤ 1048576) (hn' : ys.length ≤ 1048576) :
    Calls Try.prog 74 #[.slice A xs.length p, .slice B ys.length q] w fun e w' => e = .returned (.bool (decide (xs = ys))) ∧ ∃ n, w' = w.drewN n := by
  have HA := hide hA; clear hA
  have HB := hide hB; clear hB
  by_cases hl : xs.length = ys.length
  · have e1 : ((xs.length : Int) != (ys.length : Int)) = false := by simp [hl]
    have HL := hide hl; clear hl
    go_enter Try.func74, Try.ntmps74
    go_wp2
    go_loopw [13] (fun i wr => ∃ (k m : Nat), k ≤ xs.length ∧ i = .int .i64 k ∧ Hid (xs.take k = ys.take k) ∧ wr = w.drewN m) (fun i _ => xs.length - (intOf i).toNat)
    case atStart => exact ⟨0, 0, Nat.zero_le _, rfl, by simp [Hid], rfl⟩
    case round =>
      obtain ⟨k, m, hk, rfl, hp, rfl⟩ := hrel
      by_cases hlt : k < xs.length
      · have hlt' : k < ys.length := by have := HL.out; omega
        obtain ⟨g, off, rfl, hc⟩ := HA.out (by omega)
        obtain ⟨g', off', rfl, hc'⟩ := HB.out (by omega)
        have hcx := hc k hlt
        have hcx' := hc' k hlt'
        obtain ⟨x, hx⟩ : ∃ x, xs.getD k 0 = x := ⟨_, rfl⟩
        obtain ⟨y, hy⟩ : ∃ y, ys.getD k 0 = y := ⟨_, rfl⟩
        rw [hx] at hcx
        rw [hy] at hcx'
        have hk0 : (0 : Int) ≤ (k : Int) := by omega
        have hk1 : (k : Int) < (xs.length : Int) := by omega
        have hk2 : (k : Int) < (ys.length : Int) := by omega
        by_cases hxy : x = y
        · have HS : Hid (xs.take (k + 1) = ys.take (k + 1)) := take_same hp.out hlt hlt' (by rw [hx, hy, hxy])
          have e2 : (x != y) = false := by simpa using hxy
          clear hx hy hc hc' hxy
          go_wp2
          go_quiet (fail)
          go_wp2
          go_roundw
          case rel => exact ⟨k + 1, _, by omega, by go_num, HS, rfl⟩
          case measure => simp [intOf]; omega
        · have HS : Hid (decide (xs = ys) = false) := decide_eq_false (not_same (k := k) (by rw [hx, hy]; exact hxy))
          have e2 : (x != y) = true := by simpa using hxy
          clear hx hy hc hc' hxy
          go_wp2
          go_quiet (fail)
          go_wp2
          go_ret
          exact ⟨ret_bool HS.out.symm, by first | exact ⟨_, World.drewN_drewN _ _ _⟩ | exact ⟨_, rfl⟩⟩
      · have HS : Hid (decide (xs = ys) = true) := decide_eq_true (by have := hp.out; rwa [List.take_of_length_le (by omega), List.take_of_length_le (by have := HL.out; omega)] at this)
        go_wp2
        go_ret
        exact ⟨ret_bool HS.out.symm, m, rfl⟩
  · have e1 : ((xs.length : Int) != (ys.length : Int)) = true := by simp; omega
    have HS : Hid (decide (xs = ys) = false) := decide_eq_false (fun e => hl (by rw [e]))
    clear hl
    go_enter Try.func74, Try.ntmps74
    go_wp2
    go_ret
    exact ⟨ret_bool HS.out.symm, 0, rfl⟩

theorem same_no1 {r c r' c' : Int} {xs ys : List Int} (h : ¬ r = r') : sameB r c xs r' c' ys = false := decide_eq_false (fun hh => h hh.1)
theorem same_no2 {r c r' c' : Int} {xs ys : List Int} (h : ¬ c = c') : sameB r c xs r' c' ys = false := decide_eq_false (fun hh => h hh.2.1)
theorem same_in {r c : Int} {xs ys : List Int} : decide (xs = ys) = sameB r c xs r c ys := by simp [sameB]
theorem same_mk {r c : Int} {xs : List Int} : sameB r c xs r c xs = true := by simp [sameB]

set_option maxHeartbeats 1000000 in
theorem implSameMatrix (r c r' c' : Int) (A B : Option Addr) (p q : Nat) (xs ys : List Int) (w : World) (hA : SlI w A xs) (hB : SlI w B ys) (hn : xs.length ≤ 1048576) (hn' : ys.length ≤ 1048576) :
    Calls Try.prog 37 #[mv r c (.slice A xs.length p), mv r' c' (.slice B ys.length q)] w fun e w' => e = .returned (.bool (sameB r c xs r' c' ys)) ∧ Below w.heap.size w w' := by
  have HA := hide hA; clear hA
  have HB := hide hB; clear hB
  by_cases h1 : r = r'
  · subst h1
    by_cases h2 : c = c'
    · subst h2
      have HF := hide (same_in (r := r) (c := c) (xs := xs) (ys := ys))
      have e1 : (r == r) = true := by simp
      have e2 : (c == c) = true := by simp
      go_enter Try.func37, Try.ntmps37
      go_wp2_with (go_at_call 74; refine (slicesEqual A B p q xs ys _ (SlI.below HA.out (by repeat' (first | exact Below.refl _ _ | (refine Below.alloc ?_ ?_ _) | (refine Below.setCell ?_ ?_ _) | (refine Below.drew ?_) | (refine below_drewN ?_ _) | (refine Below.trans ?_ (Below.mono (by assumption) ?_)) | omega | (simp only [World.size_alloc, World.size_setCell, World.size_drew, size_drewN]; omega)))) (SlI.below HB.out (by repeat' (first | exact Below.refl _ _ | (refine Below.alloc ?_ ?_ _) | (refine Below.setCell ?_ ?_ _) | (refine Below.drew ?_) | (refine below_drewN ?_ _) | (refine Below.trans ?_ (Below.mono (by assumption) ?_)) | omega | (simp only [World.size_alloc, World.size_setCell, World.size_drew, size_drewN]; omega)))) hn hn').mono ?_; rintro e w1 ⟨rfl, m, rfl⟩)
      go_returns
      exact ⟨ret_bool HF.out, (by repeat' (first | exact Below.refl _ _ | (refine Below.alloc ?_ ?_ _) | (refine Below.setCell ?_ ?_ _) | (refine Below.drew ?_) | (refine below_drewN ?_ _) | (refine Below.trans ?_ (Below.mono (by assumption) ?_)) | omega | (simp only [World.size_alloc, World.size_setCell, World.size_drew, size_drewN]; omega)))⟩
    · have HF := hide (same_no2 (r := r) (r' := r) (xs := xs) (ys := ys) h2)
      have e1 : (r == r) = true := by simp
      have e2 : (c == c') = false := by simpa using h2
      clear h2
      go_enter Try.func37, Try.ntmps37
      go_wp2
      go_returns
      exact ⟨ret_bool HF.out.symm, (by repeat' (first | exact Below.refl _ _ | (refine Below.alloc ?_ ?_ _) | (refine Below.setCell ?_ ?_ _) | (refine Below.drew ?_) | (refine below_drewN ?_ _) | (refine Below.trans ?_ (Below.mono (by assumption) ?_)) | omega | (simp only [World.size_alloc, World.size_setCell, World.size_drew, size_drewN]; omega)))⟩
  · have HF := hide (same_no1 (c := c) (c' := c') (xs := xs) (ys := ys) h1)
    have e1 : (r == r') = false := by simpa using h1
    clear h1
    go_enter Try.func37, Try.ntmps37
    go_wp2
    go_returns
    exact ⟨ret_bool HF.out.symm, (by repeat' (first | exact Below.refl _ _ | (refine Below.alloc ?_ ?_ _) | (refine Below.setCell ?_ ?_ _) | (refine Below.drew ?_) | (refine below_drewN ?_ _) | (refine Below.trans ?_ (Below.mono (by assumption) ?_)) | omega | (simp only [World.size_alloc, World.size_setCell, World.size_drew, size_drewN]; omega)))⟩

set_option maxHeartbeats 2000000 in
theorem specSameMatrix (r c r' c' : Int) (A B : Option Addr) (p q : Nat) (xs ys : List Int) (w : World) (hA : SlI w A xs) (hB : SlI w B ys) (hn : xs.length ≤ 1048576) (hn' : ys.length ≤ 1048576) :
    Calls Try.prog 39 #[mv r c (.slice A xs.length p), mv r' c' (.slice B ys.length q)] w fun e w' => e = .returned (.bool (sameB r c xs r' c' ys)) ∧ Below w.heap.size w w' := by
  have HA := hide hA; clear hA
  have HB := hide hB; clear hB
  by_cases h1 : r = r'
  · subst h1
    by_cases h2 : c = c'
    · subst h2
      have HF := hide (same_in (r := r) (c := c) (xs := xs) (ys := ys))
      have e1 : (r != r) = false := by simp
      have e2 : (c != c) = false := by simp
      by_cases hl : xs.length = ys.length
      · have e3 : ((xs.length : Int) != (ys.length : Int)) = false := by simp [hl]
        have HL := hide hl; clear hl
        go_enter Try.func39, Try.ntmps39
        go_wp2
        go_outline
        go_loopw [5] (fun i wr => ∃ (k m : Nat), k ≤ xs.length ∧ i = .int .i64 k ∧ Hid (xs.take k = ys.take k) ∧ wr = ((w.alloc (.cells #[.int .i64 r, .int .i64 c, .slice A xs.length p] 28)).alloc (.cells #[.int .i64 r, .int .i64 c, .slice B ys.length q] 28)).drewN m) (fun i _ => xs.length - (intOf i).toNat)
        case atStart => exact ⟨0, 0, Nat.zero_le _, rfl, by simp [Hid], rfl⟩
        case round =>
          obtain ⟨k, m, hk, rfl, hp, rfl⟩ := hrel
          by_cases hlt : k < xs.length
          · have hlt' : k < ys.length := by have := HL.out; omega
            obtain ⟨g, off, rfl, hc⟩ := HA.out (by omega)
            obtain ⟨g', off', rfl, hc'⟩ := HB.out (by omega)
            have hcx := hc k hlt
            have hcx' := hc' k hlt'
            obtain ⟨x, hx⟩ : ∃ x, xs.getD k 0 = x := ⟨_, rfl⟩
            obtain ⟨y, hy⟩ : ∃ y, ys.getD k 0 = y := ⟨_, rfl⟩
            rw [hx] at hcx
            rw [hy] at hcx'
            have hgb : g < w.heap.size := World.block_lt_of_cell? _ _ hcx
            have hgb' : g' < w.heap.size := World.block_lt_of_cell? _ _ hcx'
            have hgc : g < w.heap.size + 1 := by omega
            have hgc' : g' < w.heap.size + 1 := by omega
            have hk0 : (0 : Int) ≤ (k : Int) := by omega
            have hk1 : (k : Int) < (xs.length : Int) := by omega
            have hk2 : (k : Int) < (ys.length : Int) := by omega
            by_cases hxy : x = y
            · have HS : Hid (xs.take (k + 1) = ys.take (k + 1)) := take_same hp.out hlt hlt' (by rw [hx, hy, hxy])
              have e2 : (x != y) = false := by simpa using hxy
              clear hx hy hc hc' hxy
              go_wp2
              go_quiet (fail)
              go_wp2
              go_roundw
              case rel => exact ⟨k + 1, _, by omega, by go_num, HS, by first | rfl | rw [World.drewN_drewN]⟩
              case measure => simp [intOf]; omega
            · have HS : Hid (decide (xs = ys) = false) := decide_eq_false (not_same (k := k) (by rw [hx, hy]; exact hxy))
              have e2 : (x != y) = true := by simpa using hxy
              clear hx hy hc hc' hxy
              go_wp2
              go_quiet (fail)
              go_wp2
              go_ret
              exact ⟨ret_bool (by rw [← HF.out, HS.out]), (by repeat' (first | exact Below.refl _ _ | (refine Below.alloc ?_ ?_ _) | (refine Below.setCell ?_ ?_ _) | (refine Below.drew ?_) | (refine below_drewN ?_ _) | (refine Below.trans ?_ (Below.mono (by assumption) ?_)) | omega | (simp only [World.size_alloc, World.size_setCell, World.size_drew, size_drewN]; omega)))⟩
          · have HS : Hid (decide (xs = ys) = true) := decide_eq_true (by have := hp.out; rwa [List.take_of_length_le (by omega), List.take_of_length_le (by have := HL.out; omega)] at this)
            go_wp2
            go_ret
            exact ⟨ret_bool (by rw [← HF.out, HS.out]), (by repeat' (first | exact Below.refl _ _ | (refine Below.alloc ?_ ?_ _) | (refine Below.setCell ?_ ?_ _) | (refine Below.drew ?_) | (refine below_drewN ?_ _) | (refine Below.trans ?_ (Below.mono (by assumption) ?_)) | omega | (simp only [World.size_alloc, World.size_setCell, World.size_drew, size_drewN]; omega)))⟩
      · have e3 : ((xs.length : Int) != (ys.length : Int)) = true := by simp; omega
        have HS : Hid (decide (xs = ys) = false) := decide_eq_false (fun e => hl (by rw [e]))
        clear hl
        go_enter Try.func39, Try.ntmps39
        go_wp2
        go_returns
        exact ⟨ret_bool (by rw [← HF.out, HS.out]), (by repeat' (first | exact Below.refl _ _ | (refine Below.alloc ?_ ?_ _) | (refine Below.setCell ?_ ?_ _) | (refine Below.drew ?_) | (refine below_drewN ?_ _) | (refine Below.trans ?_ (Below.mono (by assumption) ?_)) | omega | (simp only [World.size_alloc, World.size_setCell, World.size_drew, size_drewN]; omega)))⟩
    · have HF := hide (same_no2 (r := r) (r' := r) (xs := xs) (ys := ys) h2)
      have e1 : (r != r) = false := by simp
      have e2 : (c != c') = true := by simpa using h2
      clear h2
      go_enter Try.func39, Try.ntmps39
      go_wp2
      go_returns
      exact ⟨ret_bool HF.out.symm, (by repeat' (first | exact Below.refl _ _ | (refine Below.alloc ?_ ?_ _) | (refine Below.setCell ?_ ?_ _) | (refine Below.drew ?_) | (refine below_drewN ?_ _) | (refine Below.trans ?_ (Below.mono (by assumption) ?_)) | omega | (simp only [World.size_alloc, World.size_setCell, World.size_drew, size_drewN]; omega)))⟩
  · have HF := hide (same_no1 (c := c) (c' := c') (xs := xs) (ys := ys) h1)
    have e1 : (r != r') = true := by simpa using h1
    clear h1
    go_enter Try.func39, Try.ntmps39
    go_wp2
    go_returns
    exact ⟨ret_bool HF.out.symm, (by repeat' (first | exact Below.refl _ _ | (refine Below.alloc ?_ ?_ _) | (refine Below.setCell ?_ ?_ _) | (refine Below.drew ?_) | (refine below_drewN ?_ _) | (refine Below.trans ?_ (Below.mono (by assumption) ?_)) | omega | (simp only [World.size_alloc, World.size_setCell, World.size_drew, size_drewN]; omega)))⟩
end Go.Proofs.Ytchlaebkigmfgaa
