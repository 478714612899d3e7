/- The walks of the laws' own helpers on slices and matrices. -/
import Derived.Test.YthbmmoajfghjbaaMem
import Derived.Test.YthbmmoajfghjbaaNumW
import Derived.Test.YthbmmoajfghjbaaKeep
import Derived.RegionTactic
namespace Go.Proofs.Ythbmmoajfghjbaa
open Go.RowKit
set_option linter.unusedSimpArgs false
set_option linter.unusedVariables false

abbrev mv (r c : Int) (s : Value) : Value := .agg #[.int .i64 r, .int .i64 c, s]

set_option maxHeartbeats 1000000 in
theorem toIntS (A : Option Addr) (c : Nat) (xs : List Int) (w : World) (hA : SlI w A xs) (hn : xs.length ≤ 1048576) :
    Calls Try.prog 35 #[.slice A xs.length c] w fun e w' => e = .returned (.slice (some ⟨w.heap.size, 0, none⟩) xs.length xs.length) ∧ Own w' w.heap.size (.slice (some ⟨w.heap.size, 0, none⟩) xs.length xs.length) xs ∧ Below w.heap.size w w' := by
  obtain ⟨i0, hi, hz0, hz1, hz2⟩ := info_parts int_info
  go_enter Try.func35, Try.ntmps35
  go_wp2_with (at_make; refine wpList_make_full _ rfl _ _ 30 rfl w.heap.size 3 i0 (.int .i64 0) 1 Try.underlying30 hi hz0 hz1 _ _ _ _ xs.length rfl rfl (by omega) (by omega) ?b2 ?b3 (Nat.le_refl _) ?_)
  case b2 => rw [hz2]; omega
  case b3 => unfold maxLen; omega
  intro w0 hown0 hgrow0
  rw [madeZeros] at hown0
  go_wp2
  go_loopw [4] (fun i wr => ∃ k : Nat, k ≤ xs.length ∧ i = .int .i64 k ∧ wr.ownsRow w.heap.size 3 1 (.slice (some ⟨w.heap.size, 0, none⟩) xs.length xs.length) xs.length (iv (xs.take k ++ List.replicate (xs.length - k) 0)) ∧ Below w.heap.size w wr) (fun i _ => xs.length - (intOf i).toNat)
  case atStart => exact ⟨0, Nat.zero_le _, rfl, by simpa using hown0, (Below.refl _ _).grown hgrow0 (Nat.le_refl _) (fun k h => by cases h)⟩
  case round =>
    obtain ⟨k, hk, rfl, hown, hB⟩ := hrel
    by_cases hlt : k < xs.length
    · obtain ⟨g, off, rfl, hc⟩ := hA (by omega)
      have hcx : wr.cell? ⟨g, off + k, none⟩ = some (.int .i64 (xs.getD k 0)) := kc_call (hc k hlt) hB
      have hst := World.ownsRow.stored hown k (.int .i64 (xs.getD k 0))
      rw [set_step xs k hlt] at hst
      have hce := World.ownsRow.cellAt hown k (by omega)
      have hfz := World.ownsRow.frozenAt hown k
      have hex : ∃ v, wr.cell? ⟨w.heap.size, k, none⟩ = some v := by
        rw [hce]
        exact ⟨_, List.getElem?_eq_getElem (by simp [iv]; omega)⟩
      obtain ⟨v, hv⟩ := hex
      obtain ⟨x, hx⟩ : ∃ x, xs.getD k 0 = x := ⟨_, rfl⟩
      rw [hx] at hcx hst
      have HO := hide hst; clear hst hce hown hc hx
      go_wp2
      go_roundw
      case rel => exact ⟨k + 1, by omega, by go_num, HO.out.1, hB.grown HO.out.2 hB.size (fun j hj => by cases hj; exact Nat.le_refl _)⟩
      case measure => simp [intOf]; omega
    · have hkk : k = xs.length := by omega
      subst hkk
      have HO : Hid (Own wr w.heap.size (.slice (some ⟨w.heap.size, 0, none⟩) xs.length xs.length) xs) := by
        have := hown
        rw [Nat.sub_self, List.replicate_zero, List.append_nil, List.take_of_length_le (Nat.le_refl _)] at this
        exact this
      clear hown
      go_wp2
      go_ret
      exact ⟨rfl, HO.out, hB⟩

set_option maxHeartbeats 1000000 in
theorem toMatrix (r c : Int) (A : Option Addr) (cap : Nat) (xs : List Int) (w : World) (hA : SlI w A xs) (hn : xs.length ≤ 1048576) :
    Calls Try.prog 16 #[mv r c (.slice A xs.length cap)] w fun e w' => e = .returned (mv r c (.slice (some ⟨w.heap.size + 3, 0, none⟩) xs.length xs.length)) ∧ Own w' w.heap.size (.slice (some ⟨w.heap.size + 3, 0, none⟩) xs.length xs.length) xs ∧ Below w.heap.size w w' := by
  have HA := hide hA; clear hA
  go_enter Try.func16, Try.ntmps16
  go_wp2_with (go_at_call 35; refine (toIntS A cap xs _ (SlI.below HA.out (by repeat' (first | exact Below.refl _ _ | (refine Below.alloc ?_ ?_ _) | (refine Below.setCell ?_ ?_ _) | (refine Below.drew ?_) | (refine below_drewN ?_ _) | (refine Below.trans ?_ (Below.mono (by assumption) ?_)) | omega | (simp only [World.size_alloc, World.size_setCell, World.size_drew, size_drewN]; omega)))) hn).mono ?_; rintro e w1 ⟨rfl, ho, hb⟩; obtain ⟨hc, hf⟩ := bcell hb; have hz := hb.size; (try simp only [World.size_alloc, World.size_setCell, World.size_drew, size_drewN] at hz); (first | have hs := up3 hz | have hs := up2 hz | have hs := up1 hz | have hs := up0 hz); (try have q10 := hs _ q9); (try have q9 := hs _ q8); (try have q8 := hs _ q7); (try have q7 := hs _ q6); (try have q6 := hs _ q5); (try have q5 := hs _ q4); (try have q4 := hs _ q3); (try have q3 := hs _ q2); (try have q2 := hs _ q1); (try have p7 := hs _ p6); (try have p6 := hs _ p5); (try have p5 := hs _ p4); (try have p4 := hs _ p3); (try have p3 := hs _ p2); (try have p2 := hs _ p1); (try have q1 := new1 hz); (try have p1 := new2 hz); (try have r1 := new3 hz); (try simp only [World.size_alloc, World.size_setCell, World.size_drew, size_drewN] at ho); have HO := hide ho; clear ho)
  have m0 := hc (w.heap.size + 1) 0 (by first | omega | (simp; omega) | (simp; done)); have m1 := hc (w.heap.size + 1) 1 (by first | omega | (simp; omega) | (simp; done)); have m2 := hc (w.heap.size + 1) 2 (by first | omega | (simp; omega) | (simp; done)); simp [go_sem] at m0 m1 m2
  exact bodyPost_ret (v := mv (r) (c) (.slice (some ⟨w.heap.size + 3, 0, none⟩) xs.length xs.length)) (by first | (simp [results, Try.results16, go_sem, m0, m1, m2]; done) | (simp [results, Try.results16, go_sem]; done)) rfl ⟨rfl, Own.mono (lo := w.heap.size + 3) (by repeat' (first | with_reducible exact HO.out | with_reducible assumption | (with_reducible refine Own.set ?_ (own_ne ?_) _) | (with_reducible refine Own.set ?_ (own_nl (by assumption) (by first | omega | (dsimp only; omega))) _) | (with_reducible refine Own.alloc ?_ _) | (with_reducible refine Own.drewN ?_ _) | omega | (dsimp only; omega))) (by omega), (by repeat' (first | exact Below.refl _ _ | (refine Below.alloc ?_ ?_ _) | (refine Below.setCell ?_ ?_ _) | (refine Below.drew ?_) | (refine below_drewN ?_ _) | (refine Below.trans ?_ (Below.mono (by assumption) ?_)) | omega | (simp only [World.size_alloc, World.size_setCell, World.size_drew, size_drewN]; omega)))⟩

set_option maxHeartbeats 1000000 in
theorem eqIntS_same (A B : Option Addr) (c d : Nat) (xs : List Int) (w : World) (hA : SlI w A xs) (hB : SlI w B xs) (hn : xs.length ≤ 1048576) :
    Calls Try.prog 40 #[.slice A xs.length c, .slice B xs.length d] w fun e w' => e = .returned (.bool true) ∧ ∃ n, w' = w.drewN n := by
  have e1 : ((xs.length : Int) != (xs.length : Int)) = false := by simp
  go_enter Try.func40, Try.ntmps40
  go_wp2
  go_loopw [5] (fun i wr => ∃ (k m : Nat), k ≤ xs.length ∧ i = .int .i64 k ∧ wr = w.drewN m) (fun i _ => xs.length - (intOf i).toNat)
  case atStart => exact ⟨0, 0, Nat.zero_le _, rfl, rfl⟩
  case round =>
    obtain ⟨k, m, hk, rfl, rfl⟩ := hrel
    by_cases hlt : k < xs.length
    · obtain ⟨g, off, rfl, hc⟩ := hA (by omega)
      obtain ⟨g', off', rfl, hc'⟩ := hB (by omega)
      have hcx := hc k hlt
      have hcx' := hc' k hlt
      obtain ⟨x, hx⟩ : ∃ x, xs.getD k 0 = x := ⟨_, rfl⟩
      rw [hx] at hcx hcx'
      clear hx hc hc'
      have e2 : (x != x) = false := by simp
      have hk0 : (0 : Int) ≤ (k : Int) := by omega
      have hk1 : (k : Int) < (xs.length : Int) := by omega
      go_wp2
      go_quiet (fail)
      go_wp2
      go_roundw
      case rel => exact ⟨k + 1, _, by omega, by go_num, rfl⟩
      case measure => simp [intOf]; omega
    · go_wp2
      go_ret
      exact ⟨rfl, m, rfl⟩

set_option maxHeartbeats 1000000 in
theorem eqMatrix_same (r c : Int) (A B : Option Addr) (p q : Nat) (xs : List Int) (w : World) (hA : SlI w A xs) (hB : SlI w B xs) (hn : xs.length ≤ 1048576) :
    Calls Try.prog 19 #[mv r c (.slice A xs.length p), mv r c (.slice B xs.length q)] w fun e w' => e = .returned (.bool true) ∧ Below w.heap.size w w' := by
  have e1 : (r != r) = false := by simp
  have e2 : (c != c) = false := by simp
  have HA := hide hA; clear hA
  have HB := hide hB; clear hB
  go_enter Try.func19, Try.ntmps19
  go_wp2_with (go_at_call 40; refine (eqIntS_same A B p q xs _ (SlI.below HA.out (by repeat' (first | exact Below.refl _ _ | (refine Below.alloc ?_ ?_ _) | (refine Below.setCell ?_ ?_ _) | (refine Below.drew ?_) | (refine below_drewN ?_ _) | (refine Below.trans ?_ (Below.mono (by assumption) ?_)) | omega | (simp only [World.size_alloc, World.size_setCell, World.size_drew, size_drewN]; omega)))) (SlI.below HB.out (by repeat' (first | exact Below.refl _ _ | (refine Below.alloc ?_ ?_ _) | (refine Below.setCell ?_ ?_ _) | (refine Below.drew ?_) | (refine below_drewN ?_ _) | (refine Below.trans ?_ (Below.mono (by assumption) ?_)) | omega | (simp only [World.size_alloc, World.size_setCell, World.size_drew, size_drewN]; omega)))) hn).mono ?_; rintro e w1 ⟨rfl, m, rfl⟩)
  go_returns
  exact ⟨rfl, (by repeat' (first | exact Below.refl _ _ | (refine Below.alloc ?_ ?_ _) | (refine Below.setCell ?_ ?_ _) | (refine Below.drew ?_) | (refine below_drewN ?_ _) | (refine Below.trans ?_ (Below.mono (by assumption) ?_)) | omega | (simp only [World.size_alloc, World.size_setCell, World.size_drew, size_drewN]; omega)))⟩

theorem szIntS (A : Option Addr) (c n : Nat) (left : Int) (w : World) (h1 : 0 ≤ left) (h2 : left ≤ 1048576) (hn : (n : Int) ≤ 9223372036854775807) :
    Calls Try.prog 29 #[.slice A n c, .int .i64 left] w fun e w' => e = .returned (.int .i64 (if (n : Int) ≤ left then left - n else -1)) ∧ w = w' := by
  by_cases h : (n : Int) ≤ left
  · have HF : Hid ((if (n : Int) ≤ left then left - n else -1) = left - n) := by rw [Hid, if_pos h]
    rw [HF.out]
    go_enter Try.func29, Try.ntmps29
    go_wp2
    go_returns
    exact ⟨rfl, rfl⟩
  · rw [if_neg h]
    go_enter Try.func29, Try.ntmps29
    go_wp2
    go_returns
    exact ⟨rfl, rfl⟩
theorem szIntS_yes (A : Option Addr) (c n : Nat) (left : Int) (w : World) (h1 : 0 ≤ left) (h2 : left ≤ 1048576) (hn : (n : Int) ≤ left) :
    Calls Try.prog 29 #[.slice A n c, .int .i64 left] w fun e w' => e = .returned (.int .i64 (left - n)) ∧ w = w' :=
  (szIntS A c n left w h1 h2 (by omega)).mono fun _ _ h => by rw [if_pos hn] at h; exact h
theorem szIntS_no (A : Option Addr) (c n : Nat) (left : Int) (w : World) (h1 : 0 ≤ left) (h2 : left ≤ 1048576) (hn : left < (n : Int)) (hm : (n : Int) ≤ 9223372036854775807) :
    Calls Try.prog 29 #[.slice A n c, .int .i64 left] w fun e w' => e = .returned (.int .i64 (-1)) ∧ w = w' :=
  (szIntS A c n left w h1 h2 hm).mono fun _ _ h => by rw [if_neg (by omega)] at h; exact h

theorem szMatrix_yes (r s : Int) (A : Option Addr) (c n : Nat) (left : Int) (w : World) (h1 : 0 ≤ left) (h2 : left ≤ 1048576) (hn : (n : Int) ≤ left) :
    Calls Try.prog 14 #[mv r s (.slice A n c), .int .i64 left] w fun e w' => e = .returned (.int .i64 (left - n)) ∧ Below w.heap.size w w' := by
  go_enter Try.func14, Try.ntmps14
  go_wp2_with (go_at_call 29; refine (szIntS_yes A c n left _ h1 h2 hn).mono ?_; rintro e w1 ⟨rfl, rfl⟩)
  go_returns
  exact ⟨rfl, (by repeat' (first | exact Below.refl _ _ | (refine Below.alloc ?_ ?_ _) | (refine Below.setCell ?_ ?_ _) | (refine Below.drew ?_) | (refine below_drewN ?_ _) | (refine Below.trans ?_ (Below.mono (by assumption) ?_)) | omega | (simp only [World.size_alloc, World.size_setCell, World.size_drew, size_drewN]; omega)))⟩
theorem szMatrix_no (r s : Int) (A : Option Addr) (c n : Nat) (left : Int) (w : World) (h1 : 0 ≤ left) (h2 : left ≤ 1048576) (hn : left < (n : Int)) (hm : (n : Int) ≤ 9223372036854775807) :
    Calls Try.prog 14 #[mv r s (.slice A n c), .int .i64 left] w fun e w' => e = .returned (.int .i64 (-1)) ∧ Below w.heap.size w w' := by
  go_enter Try.func14, Try.ntmps14
  go_wp2_with (go_at_call 29; refine (szIntS_no A c n left _ h1 h2 hn hm).mono ?_; rintro e w1 ⟨rfl, rfl⟩)
  go_returns
  exact ⟨rfl, (by repeat' (first | exact Below.refl _ _ | (refine Below.alloc ?_ ?_ _) | (refine Below.setCell ?_ ?_ _) | (refine Below.drew ?_) | (refine below_drewN ?_ _) | (refine Below.trans ?_ (Below.mono (by assumption) ?_)) | omega | (simp only [World.size_alloc, World.size_setCell, World.size_drew, size_drewN]; omega)))⟩
end Go.Proofs.Ythbmmoajfghjbaa
