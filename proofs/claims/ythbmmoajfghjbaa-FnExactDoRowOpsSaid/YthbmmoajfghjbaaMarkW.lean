/- The walks of the laws' marks: what is written into a result, and found there again. -/
import Derived.Test.YthbmmoajfghjbaaMatW
namespace Go.Proofs.Ythbmmoajfghjbaa
open Go.RowKit
set_option linter.unusedSimpArgs false
set_option linter.unusedVariables false

/-- k, k + 1, .. -/
def marks (k : Int) (n : Nat) : List Int := (List.range n).map fun (i : Nat) => k + (i : Int)
theorem marks_length (k : Int) (n : Nat) : (marks k n).length = n := by simp [marks]
theorem marks_getD (k : Int) (n i : Nat) (h : i < n) : (marks k n).getD i 0 = k + i := by simp [marks, List.getD, h]
theorem mark_step (xs : List Int) (k : Int) (i : Nat) (h : i < xs.length) : (iv (marks k i ++ xs.drop i)).set i (.int .i64 (k + i)) = iv (marks k (i + 1) ++ xs.drop (i + 1)) := by
  apply List.ext_getElem?
  intro j
  simp only [iv, marks, List.getElem?_set, List.getElem?_map, List.length_map, List.length_append, List.length_range, List.length_drop, List.getElem?_append, List.getElem?_drop, List.getElem?_range]
  by_cases hj : i = j
  · subst hj
    simp [h]
    omega
  · rw [if_neg hj]
    by_cases h1 : j < i
    · simp [h1, show j < i + 1 from by omega]
    · have h2 : ¬ j < i + 1 := by omega
      simp only [h1, h2, if_false]
      rw [show i + (j - i) = i + 1 + (j - (i + 1)) from by omega]

set_option maxHeartbeats 1000000 in
theorem markIntS_some (g c lo : Nat) (xs : List Int) (k : Int) (w : World) (h : Own w lo (.slice (some ⟨g, 0, none⟩) xs.length c) xs) (hn : xs.length ≤ 1048576) (hk : 0 ≤ k) (hk' : k ≤ 9000000) :
    Calls Try.prog 41 #[.slice (some ⟨g, 0, none⟩) xs.length c, .int .i64 k] w fun e w' => e = .returned (.int .i64 (k + (xs.length : Int))) ∧ Own w' lo (.slice (some ⟨g, 0, none⟩) xs.length c) (marks k xs.length) ∧ w.grownBy w' (some g) := by
  have HH := hide h; clear h
  go_enter Try.func41, Try.ntmps41
  go_wp2
  go_loopw [1, 5] (fun kk i wr => ∃ j : Nat, j ≤ xs.length ∧ i = .int .i64 j ∧ kk = .int .i64 (k + (j : Int)) ∧ wr.ownsRow lo 3 1 (.slice (some ⟨g, 0, none⟩) xs.length c) xs.length (iv (marks k j ++ xs.drop j)) ∧ w.grownBy wr (some g)) (fun _ i _ => xs.length - (intOf i).toNat)
  case atStart => exact ⟨0, Nat.zero_le _, rfl, by simp, by simpa [marks, Own] using HH.out, World.grownBy.refl _ _⟩
  case round =>
    obtain ⟨j, hj, rfl, rfl, hown, hG⟩ := hrel
    by_cases hlt : j < xs.length
    · have hst := World.ownsRow.stored hown j (.int .i64 (k + j))
      rw [mark_step xs k j hlt] at hst
      have hce := World.ownsRow.cellAt hown j (by omega)
      have hfz := World.ownsRow.frozenAt hown j
      have hex : ∃ v, wr.cell? ⟨g, j, none⟩ = some v := by
        rw [hce]
        exact ⟨_, List.getElem?_eq_getElem (by simp [iv, marks]; omega)⟩
      obtain ⟨v, hv⟩ := hex
      have HO := hide hst; clear hst hce hown
      go_wp2
      go_roundw
      case rel => exact ⟨j + 1, by omega, by go_num, by first | rfl | (congr 1; omega), HO.out.1, grownBy_trans hG HO.out.2⟩
      case measure => simp [intOf]; omega
    · have hkk : j = xs.length := by omega
      subst hkk
      have HO : Hid (Own wr lo (.slice (some ⟨g, 0, none⟩) xs.length c) (marks k xs.length)) := by
        have := hown
        rw [List.drop_length, List.append_nil] at this
        rw [Hid, Own, marks_length]
        exact this
      clear hown
      go_wp2
      go_ret
      exact ⟨rfl, HO.out, hG⟩
theorem markIntS_nil (k : Int) (w : World) :
    Calls Try.prog 41 #[.slice none 0 0, .int .i64 k] w fun e w' => e = .returned (.int .i64 k) ∧ w = w' := by
  go_enter Try.func41, Try.ntmps41
  go_wp2
  refine wp_loop_rounds 1 ?_
  rw [rounds_succ]
  go_wp2
  go_ret
  exact ⟨rfl, rfl⟩
theorem markIntS (s : Value) (lo : Nat) (xs : List Int) (k : Int) (w : World) (h : Own w lo s xs) (hn : xs.length ≤ 1048576) (hk : 0 ≤ k) (hk' : k ≤ 9000000) :
    Calls Try.prog 41 #[s, .int .i64 k] w fun e w' => e = .returned (.int .i64 (k + (xs.length : Int))) ∧ Own w' lo s (marks k xs.length) ∧ w.grownBy w' s.ownBlock := by
  rcases Own.form h with ⟨rfl, rfl⟩ | ⟨g, c, rfl, _, _⟩
  · refine (markIntS_nil k w).mono ?_
    rintro e w' ⟨rfl, rfl⟩
    exact ⟨by simp, by simpa [marks] using h, World.grownBy.refl _ _⟩
  · exact markIntS_some g c lo xs k w h hn hk hk'
set_option maxHeartbeats 1000000 in
theorem heldIntS (A : Option Addr) (c n : Nat) (k : Int) (w : World) (h : SlI w A (marks k n)) (hn : n ≤ 1048576) (hk : 0 ≤ k) (hk' : k ≤ 9000000) :
    Calls Try.prog 42 #[.slice A n c, .int .i64 k] w fun e w' => e = .returned (.int .i64 (k + (n : Int))) ∧ w = w' := by
  have HH := hide h; clear h
  go_enter Try.func42, Try.ntmps42
  go_wp2
  go_loop [1, 5] (fun kk i => ∃ j : Nat, j ≤ n ∧ i = .int .i64 j ∧ kk = .int .i64 (k + (j : Int))) (fun _ i => n - (intOf i).toNat)
  case atStart => exact ⟨0, Nat.zero_le _, rfl, by simp⟩
  case round =>
    obtain ⟨j, hj, rfl, rfl⟩ := hrel
    by_cases hlt : j < n
    · obtain ⟨g, off, rfl, hc⟩ := HH.out (by rw [marks_length]; omega)
      have hcx := hc j (by rw [marks_length]; omega)
      rw [marks_getD k n j hlt] at hcx
      have e2 : ((k + (j : Int)) != (k + (j : Int))) = false := by simp
      clear hc
      go_wp2
      go_round
      case rel => exact ⟨j + 1, by omega, by go_num, by first | rfl | (congr 1; omega)⟩
      case measure => simp [intOf]; omega
    · have hkk : j = n := by omega
      subst hkk
      go_wp2
      go_ret
      exact ⟨rfl, rfl⟩

theorem markMatrix (r c : Int) (s : Value) (lo : Nat) (xs : List Int) (k : Int) (w : World) (h : Own w lo s xs) (hn : xs.length ≤ 1048576) (hk : 0 ≤ k) (hk' : k ≤ 9000000) :
    Calls Try.prog 20 #[mv r c s, .int .i64 k] w fun e w' => e = .returned (.int .i64 (k + (xs.length : Int))) ∧ Own w' lo s (marks k xs.length) ∧ w.grownBy w' s.ownBlock := by
  have HH := hide h; clear h
  go_enter Try.func20, Try.ntmps20
  go_wp2_with (go_at_call 41; refine (markIntS s lo xs k _ (Own.alloc HH.out _) hn hk hk').mono ?_; rintro e w1 ⟨rfl, ho, hg⟩)
  go_returns
  exact ⟨rfl, ho, grownBy_trans (World.grownBy_alloc w _ _) hg⟩
theorem heldMatrix (r c : Int) (A : Option Addr) (p n : Nat) (k : Int) (w : World) (h : SlI w A (marks k n)) (hn : n ≤ 1048576) (hk : 0 ≤ k) (hk' : k ≤ 9000000) :
    Calls Try.prog 21 #[mv r c (.slice A n p), .int .i64 k] w fun e w' => e = .returned (.int .i64 (k + (n : Int))) ∧ Below w.heap.size w w' := by
  have HH := hide h; clear h
  go_enter Try.func21, Try.ntmps21
  go_wp2_with (go_at_call 42; refine (heldIntS A p n k _ (SlI.below HH.out (by repeat' (first | exact Below.refl _ _ | (refine Below.alloc ?_ ?_ _) | (refine Below.setCell ?_ ?_ _) | (refine Below.drew ?_) | (refine below_drewN ?_ _) | (refine Below.trans ?_ (Below.mono (by assumption) ?_)) | omega | (simp only [World.size_alloc, World.size_setCell, World.size_drew, size_drewN]; omega)))) hn hk hk').mono ?_; rintro e w1 ⟨rfl, rfl⟩)
  go_returns
  exact ⟨rfl, (by repeat' (first | exact Below.refl _ _ | (refine Below.alloc ?_ ?_ _) | (refine Below.setCell ?_ ?_ _) | (refine Below.drew ?_) | (refine below_drewN ?_ _) | (refine Below.trans ?_ (Below.mono (by assumption) ?_)) | omega | (simp only [World.size_alloc, World.size_setCell, World.size_drew, size_drewN]; omega)))⟩
end Go.Proofs.Ythbmmoajfghjbaa
