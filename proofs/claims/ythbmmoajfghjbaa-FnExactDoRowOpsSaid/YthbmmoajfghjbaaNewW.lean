/- The walks of a new matrix and of the program's store of a cell. -/
import Derived.Test.YthbmmoajfghjbaaMatW
import Derived.RegionTactic
import Derived.Deep.RegionLaw
namespace Go.Proofs.Ythbmmoajfghjbaa
open Go.RowKit
set_option linter.unusedSimpArgs false
set_option linter.unusedVariables false

theorem own_zeros {w' : World} {lo g : Nat} {n : Nat} (h : w'.ownsRow lo 3 1 (.slice (some ⟨g, 0, none⟩) n n) n (madeCells #[Value.int .i64 0] n).toList) : Own w' lo (.slice (some ⟨g, 0, none⟩) n n) (List.replicate n 0) := by
  rw [madeZeros] at h
  rw [Own, List.length_replicate]
  exact h

set_option maxHeartbeats 1000000 in
theorem implNewMatrix (r c : Int) (n : Nat) (w : World) (hn : Hid (r * c = (n : Int))) (h : n ≤ 1048576) :
    Calls Try.prog 53 #[.int .i64 r, .int .i64 c] w fun e w' => e = .returned (mv r c (.slice (some ⟨w.heap.size + 1, 0, none⟩) n n)) ∧ Own w' w.heap.size (.slice (some ⟨w.heap.size + 1, 0, none⟩) n n) (List.replicate n 0) ∧ Below w.heap.size w w' := by
  obtain ⟨i0, hi, hz0, hz1, hz2⟩ := info_parts int_info
  have hw : IntKind.i64.wrap (r * c) = (n : Int) := by rw [hn.out]; exact IntWalk.i64_in _ (by omega)
  go_enter Try.func53, Try.ntmps53
  go_wp2_with (at_make; refine wpList_make_full _ rfl _ _ 30 rfl (w.heap.size + 1) 3 i0 (.int .i64 0) 1 Try.underlying30 hi hz0 hz1 _ _ _ _ n rfl rfl (by omega) (by omega) ?b2 ?b3 (by simp) ?_)
  case b2 => rw [hz2]; omega
  case b3 => unfold maxLen; omega
  intro w1 hown hg
  try simp only [World.size_alloc] at hown
  have HO := hide (own_zeros hown)
  have hb : Below (w.alloc (.cells #[.int .i64 0, .int .i64 0, .slice none 0 0] 36)).heap.size (w.alloc (.cells #[.int .i64 0, .int .i64 0, .slice none 0 0] 36)) w1 := (Below.refl _ _).grown hg (Nat.le_refl _) (fun k hk => by cases hk)
  clear hown hg
  obtain ⟨hc, hf⟩ := bcell hb; have hz := hb.size; (try simp only [World.size_alloc, World.size_setCell, World.size_drew, size_drewN] at hz); (first | have hs := up3 hz | have hs := up2 hz | have hs := up1 hz | have hs := up0 hz); (try have q10 := hs _ q9); (try have q9 := hs _ q8); (try have q8 := hs _ q7); (try have q7 := hs _ q6); (try have q6 := hs _ q5); (try have q5 := hs _ q4); (try have q4 := hs _ q3); (try have q3 := hs _ q2); (try have q2 := hs _ q1); (try have p7 := hs _ p6); (try have p6 := hs _ p5); (try have p5 := hs _ p4); (try have p4 := hs _ p3); (try have p3 := hs _ p2); (try have p2 := hs _ p1); (try have q1 := new1 hz); (try have p1 := new2 hz); (try have r1 := new3 hz)
  go_wp2
  have m0 := hc (w.heap.size) 0 (by first | omega | (simp; omega) | (simp; done)); have m1 := hc (w.heap.size) 1 (by first | omega | (simp; omega) | (simp; done)); have m2 := hc (w.heap.size) 2 (by first | omega | (simp; omega) | (simp; done)); simp [go_sem] at m0 m1 m2
  exact bodyPost_ret (v := mv (r) (c) (.slice (some ⟨w.heap.size + 1, 0, none⟩) n n)) (by first | (simp [results, Try.results53, go_sem, m0, m1, m2]; done) | (simp [results, Try.results53, go_sem]; done)) rfl ⟨rfl, Own.mono (lo := w.heap.size + 1) (by repeat' (first | with_reducible exact HO.out | with_reducible assumption | (with_reducible refine Own.set ?_ (own_ne ?_) _) | (with_reducible refine Own.set ?_ (own_nl (by assumption) (by first | omega | (dsimp only; omega))) _) | (with_reducible refine Own.alloc ?_ _) | (with_reducible refine Own.drewN ?_ _) | omega | (dsimp only; omega))) (by omega), (by repeat' (first | exact Below.refl _ _ | (refine Below.alloc ?_ ?_ _) | (refine Below.setCell ?_ ?_ _) | (refine Below.drew ?_) | (refine below_drewN ?_ _) | (refine Below.trans ?_ (Below.mono (by assumption) ?_)) | omega | (simp only [World.size_alloc, World.size_setCell, World.size_drew, size_drewN]; omega)))⟩

set_option maxHeartbeats 1000000 in
theorem implSet_some (r c i j x : Int) (k g cap lo : Nat) (xs : List Int) (w : World) (h : Own w lo (.slice (some ⟨g, 0, none⟩) xs.length cap) xs) (hn : xs.length ≤ 1048576)
    (hk : Hid (i * c = (k : Int) - j)) (hlt : k < xs.length) (h0 : 0 ≤ i * c) (h1 : i * c ≤ 1048576) (j0 : 0 ≤ j) (j1 : j ≤ 1048576) :
    Calls Try.prog 54 #[mv r c (.slice (some ⟨g, 0, none⟩) xs.length cap), .int .i64 i, .int .i64 j, .int .i64 x] w fun e w' => e = .returned (.tuple #[]) ∧ Own w' lo (.slice (some ⟨g, 0, none⟩) xs.length cap) (xs.set k x) ∧ w.grownBy w' (some g) := by
  have hown : (w.alloc (.cells #[.int .i64 r, .int .i64 c, .slice (some ⟨g, 0, none⟩) xs.length cap] 36)).ownsRow lo 3 1 (.slice (some ⟨g, 0, none⟩) xs.length cap) xs.length (iv xs) := World.ownsRow.alloc h _
  have hst := World.ownsRow.stored hown k (.int .i64 x)
  have hce := World.ownsRow.cellAt hown k (by omega)
  have hfz := World.ownsRow.frozenAt hown k
  have hex : ∃ v, (w.alloc (.cells #[.int .i64 r, .int .i64 c, .slice (some ⟨g, 0, none⟩) xs.length cap] 36)).cell? ⟨g, k, none⟩ = some v := by
    rw [hce]
    exact ⟨_, List.getElem?_eq_getElem (by simp [iv]; omega)⟩
  obtain ⟨v, hv⟩ := hex
  have hik : i * c + j = (k : Int) := by have := hk.out; omega
  have HO : Hid (Own ((w.alloc (.cells #[.int .i64 r, .int .i64 c, .slice (some ⟨g, 0, none⟩) xs.length cap] 36)).setCell ⟨g, k, none⟩ (.int .i64 x)) lo (.slice (some ⟨g, 0, none⟩) xs.length cap) (xs.set k x)) := by
    have := hst.1
    rw [Hid, Own, List.length_set]
    simpa [iv, List.map_set] using this
  have HG := hide (grownBy_trans (World.grownBy_alloc w _ (some g)) hst.2)
  clear hst hce hown h
  go_enter Try.func54, Try.ntmps54
  go_wp2
  go_end0
  exact ⟨rfl, HO.out, HG.out⟩
set_option maxHeartbeats 1000000 in
theorem specL3New (r c : Int) (n : Nat) (w : World) (hn : Hid (r * c = (n : Int))) (h : n ≤ 1048576) :
    Calls Try.prog 52 #[.int .i64 r, .int .i64 c] w fun e w' => e = .returned (mv r c (.slice (some ⟨w.heap.size + 1, 0, none⟩) n n)) ∧ Own w' w.heap.size (.slice (some ⟨w.heap.size + 1, 0, none⟩) n n) (List.replicate n 0) ∧ Below w.heap.size w w' := by
  obtain ⟨i0, hi, hz0, hz1, hz2⟩ := info_parts int_info
  have hw : IntKind.i64.wrap (r * c) = (n : Int) := by rw [hn.out]; exact IntWalk.i64_in _ (by omega)
  go_enter Try.func52, Try.ntmps52
  go_wp2_with (at_make; refine wpList_make_full _ rfl _ _ 30 rfl (w.heap.size + 1) 3 i0 (.int .i64 0) 1 Try.underlying30 hi hz0 hz1 _ _ _ _ n rfl rfl (by omega) (by omega) ?b2 ?b3 (by simp) ?_)
  case b2 => rw [hz2]; omega
  case b3 => unfold maxLen; omega
  intro w1 hown hg
  try simp only [World.size_alloc] at hown
  have HO := hide (own_zeros hown)
  have hb : Below (w.alloc (.cells #[.int .i64 0, .int .i64 0, .slice none 0 0] 36)).heap.size (w.alloc (.cells #[.int .i64 0, .int .i64 0, .slice none 0 0] 36)) w1 := (Below.refl _ _).grown hg (Nat.le_refl _) (fun k hk => by cases hk)
  clear hown hg
  obtain ⟨hc, hf⟩ := bcell hb; have hz := hb.size; (try simp only [World.size_alloc, World.size_setCell, World.size_drew, size_drewN] at hz); (first | have hs := up3 hz | have hs := up2 hz | have hs := up1 hz | have hs := up0 hz); (try have q10 := hs _ q9); (try have q9 := hs _ q8); (try have q8 := hs _ q7); (try have q7 := hs _ q6); (try have q6 := hs _ q5); (try have q5 := hs _ q4); (try have q4 := hs _ q3); (try have q3 := hs _ q2); (try have q2 := hs _ q1); (try have p7 := hs _ p6); (try have p6 := hs _ p5); (try have p5 := hs _ p4); (try have p4 := hs _ p3); (try have p3 := hs _ p2); (try have p2 := hs _ p1); (try have q1 := new1 hz); (try have p1 := new2 hz); (try have r1 := new3 hz)
  go_wp2
  have m0 := hc (w.heap.size) 0 (by first | omega | (simp; omega) | (simp; done)); have m1 := hc (w.heap.size) 1 (by first | omega | (simp; omega) | (simp; done)); have m2 := hc (w.heap.size) 2 (by first | omega | (simp; omega) | (simp; done)); simp [go_sem] at m0 m1 m2
  exact bodyPost_ret (v := mv (r) (c) (.slice (some ⟨w.heap.size + 1, 0, none⟩) n n)) (by first | (simp [results, Try.results52, go_sem, m0, m1, m2]; done) | (simp [results, Try.results52, go_sem]; done)) rfl ⟨rfl, Own.mono (lo := w.heap.size + 1) (by repeat' (first | with_reducible exact HO.out | with_reducible assumption | (with_reducible refine Own.set ?_ (own_ne ?_) _) | (with_reducible refine Own.set ?_ (own_nl (by assumption) (by first | omega | (dsimp only; omega))) _) | (with_reducible refine Own.alloc ?_ _) | (with_reducible refine Own.drewN ?_ _) | omega | (dsimp only; omega))) (by omega), (by repeat' (first | exact Below.refl _ _ | (refine Below.alloc ?_ ?_ _) | (refine Below.setCell ?_ ?_ _) | (refine Below.drew ?_) | (refine below_drewN ?_ _) | (refine Below.trans ?_ (Below.mono (by assumption) ?_)) | omega | (simp only [World.size_alloc, World.size_setCell, World.size_drew, size_drewN]; omega)))⟩
end Go.Proofs.Ythbmmoajfghjbaa
