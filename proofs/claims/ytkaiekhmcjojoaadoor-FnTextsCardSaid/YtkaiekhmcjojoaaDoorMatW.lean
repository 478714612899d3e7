/- The walks of the laws' own helpers on slices and matrices. -/
import Derived.Test.YtkaiekhmcjojoaaDoorMem
import Derived.Test.YtkaiekhmcjojoaaDoorNumW
import Derived.Test.YtkaiekhmcjojoaaDoorKeep
import Derived.RegionTactic
namespace Go.Proofs.YtkaiekhmcjojoaaDoor
open Go.RowKit
set_option linter.unusedSimpArgs false
set_option linter.unusedVariables false

abbrev mv (r c : Int) (s : Value) : Value := .agg #[.int .i64 r, .int .i64 c, s]



set_option maxHeartbeats 1000000 in
theorem eqIntS_same (A B : Option Addr) (c d : Nat) (xs : List Int) (w : World) (hA : SlI w A xs) (hB : SlI w B xs) (hn : xs.length ≤ 1048576) :
    Calls Tryd.prog 43 #[.slice A xs.length c, .slice B xs.length d] w fun e w' => e = .returned (.bool true) ∧ ∃ n, w' = w.drewN n := by
  have e1 : ((xs.length : Int) != (xs.length : Int)) = false := by simp
  go_enter Tryd.func43, Tryd.ntmps43
  go_wp2
  go_loopw [5] (fun i wr => ∃ (k m : Nat), k ≤ xs.length ∧ i = .int .i64 k ∧ wr = w.drewN m) (fun i _ => xs.length - (intOf i).toNat)
  case atStart => exact ⟨0, 0, Nat.zero_le _, rfl, rfl⟩
  case round =>
    obtain ⟨k, m, hk, rfl, rfl⟩ := hrel
    by_cases hlt : k < xs.length
    · obtain ⟨g, off, rfl, hc⟩ := hA (by omega)
      obtain ⟨g', off', rfl, hc'⟩ := hB (by omega)
      have hcx := hc k hlt
      have hcx' := hc' k hlt
      obtain ⟨x, hx⟩ : ∃ x, xs.getD k 0 = x := ⟨_, rfl⟩
      rw [hx] at hcx hcx'
      clear hx hc hc'
      have e2 : (x != x) = false := by simp
      have hk0 : (0 : Int) ≤ (k : Int) := by omega
      have hk1 : (k : Int) < (xs.length : Int) := by omega
      go_wp2
      go_quiet (fail)
      go_wp2
      go_roundw
      case rel => exact ⟨k + 1, _, by omega, by go_num, rfl⟩
      case measure => simp [intOf]; omega
    · go_wp2
      go_ret
      exact ⟨rfl, m, rfl⟩

set_option maxHeartbeats 1000000 in
theorem eqMatrix_same (r c : Int) (A B : Option Addr) (p q : Nat) (xs : List Int) (w : World) (hA : SlI w A xs) (hB : SlI w B xs) (hn : xs.length ≤ 1048576) :
    Calls Tryd.prog 13 #[mv r c (.slice A xs.length p), mv r c (.slice B xs.length q)] w fun e w' => e = .returned (.bool true) ∧ Below w.heap.size w w' := by
  have e1 : (r != r) = false := by simp
  have e2 : (c != c) = false := by simp
  have HA := hide hA; clear hA
  have HB := hide hB; clear hB
  go_enter Tryd.func13, Tryd.ntmps13
  go_wp2_with (go_at_call 43; refine (eqIntS_same A B p q xs _ (SlI.below HA.out (by repeat' (first | exact Below.refl _ _ | (refine Below.alloc ?_ ?_ _) | (refine Below.setCell ?_ ?_ _) | (refine Below.drew ?_) | (refine below_drewN ?_ _) | (refine Below.trans ?_ (Below.mono (by assumption) ?_)) | omega | (simp only [World.size_alloc, World.size_setCell, World.size_drew, size_drewN]; omega)))) (SlI.below HB.out (by repeat' (first | exact Below.refl _ _ | (refine Below.alloc ?_ ?_ _) | (refine Below.setCell ?_ ?_ _) | (refine Below.drew ?_) | (refine below_drewN ?_ _) | (refine Below.trans ?_ (Below.mono (by assumption) ?_)) | omega | (simp only [World.size_alloc, World.size_setCell, World.size_drew, size_drewN]; omega)))) hn).mono ?_; rintro e w1 ⟨rfl, m, rfl⟩)
  go_returns
  exact ⟨rfl, (by repeat' (first | exact Below.refl _ _ | (refine Below.alloc ?_ ?_ _) | (refine Below.setCell ?_ ?_ _) | (refine Below.drew ?_) | (refine below_drewN ?_ _) | (refine Below.trans ?_ (Below.mono (by assumption) ?_)) | omega | (simp only [World.size_alloc, World.size_setCell, World.size_drew, size_drewN]; omega)))⟩


end Go.Proofs.YtkaiekhmcjojoaaDoor
