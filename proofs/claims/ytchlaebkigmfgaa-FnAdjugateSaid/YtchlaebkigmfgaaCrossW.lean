/- The walks of WithoutCross. -/
import Derived.Test.YtchlaebkigmfgaaCrossL
import Derived.Test.YtchlaebkigmfgaaCellW
import Derived.Test.YtchlaebkigmfgaaRowLib
import Derived.IntWalk
import Derived.StillTailTactics
import Derived.Deep.RegionHeld3
import Derived.Deep.RegionLaw
import Derived.Deep.DeepCutAuto
namespace Go.Proofs.Ytchlaebkigmfgaa
open Go.RowKit
set_option linter.unusedSimpArgs false
set_option linter.unusedVariables false

set_option maxHeartbeats 8000000 in
theorem implCrossIn (R C row col : Nat) (A : Option Addr) (cap : Nat) (xs : List Int) (w : World) (hA : Sl w A xs.length cap xs) (hlx : xs.length = R * C) (HR : R ≤ 24) (HC : C ≤ 24) (hrow : row < R) (hcol : col < C) :
    Calls Try.prog 61 #[mv R C (.slice A xs.length cap), .int .i64 row, .int .i64 col] w (RetM3 w ((R : Int) - 1) ((C : Int) - 1) (crossL R C row col xs)) := by
  have HA := hide hA; clear hA
  have hxl : xs.length ≤ 576 := by rw [hlx]; exact Nat.mul_le_mul HR HC
  have HL := hide hlx; clear hlx
  go_enter Try.func61, Try.ntmps61
  go_wp2
  go_loopw [8] (fun iv wr => ∃ (i : Nat) (A2 : Option Addr) (n2 c2 : Nat), i ≤ R ∧ iv = .int .i64 i ∧ Hid ((crossTo C row col xs i 0).length = n2) ∧ Own wr (w.heap.size + 1 + 1) (.slice A2 n2 c2) (crossTo C row col xs i 0) ∧ Hid ((Value.slice A2 n2 c2).ownBlock ≠ some (w.heap.size + 1 + 1 + 1)) ∧
          Box3 wr w.heap.size (.int .i64 R) (.int .i64 C) (.slice A xs.length cap) ∧ Box3 wr (w.heap.size + 1) (.int .i64 0) (.int .i64 0) (.slice none 0 0) ∧ Box3 wr (w.heap.size + 1 + 1 + 1) (.int .i64 ((R : Int) - 1)) (.int .i64 ((C : Int) - 1)) (.slice A2 n2 c2) ∧ Below w.heap.size w wr) (fun iv _ => R - (intOf iv).toNat)
  case atStart =>
    refine ⟨0, some ⟨w.heap.size + 1 + 1, 0, none⟩, 0, 0, Nat.zero_le _, rfl, by rw [Hid, cross_start]; rfl, ?_, ?_, ?_, ?_, ?_, ?_⟩
    · rw [cross_start]
      exact Own.alloc (own_empty2 ((w.alloc (.cells #[.int .i64 R, .int .i64 C, .slice A xs.length cap] 28)).alloc (.cells #[.int .i64 0, .int .i64 0, .slice none 0 0] 28)) _ (by simp)) _
    · exact by simp [Hid, Value.ownBlock]
    · exact (by repeat' (first | with_reducible assumption | (with_reducible refine Box3.set ?_ ?_ _) | (with_reducible refine Box3.drew ?_) | (with_reducible refine Box3.drewN ?_ _) | (with_reducible exact Box3.new _ _ _ (by first | rfl | (simp only [World.size_alloc]; done) | (simp only [World.size_alloc]; omega))) | (with_reducible refine Box3.alloc ?_ _) | (with_reducible refine Box3.call ?_ (by assumption)) | (with_reducible refine Box3.grown ?_ (by assumption) (by simp; omega)) | omega | (dsimp only; omega) | (simp only [World.size_alloc, World.size_setCell, World.size_drew, size_drewN]; omega)))
    · exact (by repeat' (first | with_reducible assumption | (with_reducible refine Box3.set ?_ ?_ _) | (with_reducible refine Box3.drew ?_) | (with_reducible refine Box3.drewN ?_ _) | (with_reducible exact Box3.new _ _ _ (by first | rfl | (simp only [World.size_alloc]; done) | (simp only [World.size_alloc]; omega))) | (with_reducible refine Box3.alloc ?_ _) | (with_reducible refine Box3.call ?_ (by assumption)) | (with_reducible refine Box3.grown ?_ (by assumption) (by simp; omega)) | omega | (dsimp only; omega) | (simp only [World.size_alloc, World.size_setCell, World.size_drew, size_drewN]; omega)))
    · exact (by repeat' (first | with_reducible assumption | (with_reducible refine Box3.set ?_ ?_ _) | (with_reducible refine Box3.drew ?_) | (with_reducible refine Box3.drewN ?_ _) | (with_reducible exact Box3.new _ _ _ (by first | rfl | (simp only [World.size_alloc]; done) | (simp only [World.size_alloc]; omega))) | (with_reducible refine Box3.alloc ?_ _) | (with_reducible refine Box3.call ?_ (by assumption)) | (with_reducible refine Box3.grown ?_ (by assumption) (by simp; omega)) | omega | (dsimp only; omega) | (simp only [World.size_alloc, World.size_setCell, World.size_drew, size_drewN]; omega)))
    · exact (by repeat' (first | exact Below.refl _ _ | (refine Below.alloc ?_ ?_ _) | (refine Below.setCell ?_ ?_ _) | (refine Below.drew ?_) | (refine below_drewN ?_ _) | (refine Below.trans ?_ (Below.mono (by assumption) ?_)) | omega | (simp only [World.size_alloc, World.size_setCell, World.size_drew, size_drewN]; omega)))
  case round =>
    obtain ⟨i, A2, n2, c2, hi, rfl, hn2, ho, hne, b0, b1, b3, hB⟩ := hrel
    obtain ⟨wo, rfl⟩ : ∃ wo : World, wo = wr := ⟨_, rfl⟩
    have hB0 := hide b0
    have hB1 := hide b1
    have hB3 := hide b3
    have HO := hide ho; clear ho b1 b3
    obtain ⟨⟨a0, a1, a2⟩, _⟩ := b0
    by_cases hlt : i < R
    · go_wp2
      go_loopw [9] (fun jv wr => ∃ (j : Nat) (A2 : Option Addr) (n2 c2 : Nat), j ≤ C ∧ jv = .int .i64 j ∧ Hid ((crossTo C row col xs i j).length = n2) ∧ Own wr (w.heap.size + 1 + 1) (.slice A2 n2 c2) (crossTo C row col xs i j) ∧ Hid ((Value.slice A2 n2 c2).ownBlock ≠ some (w.heap.size + 1 + 1 + 1)) ∧
          Box3 wr w.heap.size (.int .i64 R) (.int .i64 C) (.slice A xs.length cap) ∧ Box3 wr (w.heap.size + 1) (.int .i64 0) (.int .i64 0) (.slice none 0 0) ∧ Box3 wr (w.heap.size + 1 + 1 + 1) (.int .i64 ((R : Int) - 1)) (.int .i64 ((C : Int) - 1)) (.slice A2 n2 c2) ∧ Below w.heap.size w wr) (fun jv _ => C - (intOf jv).toNat)
      case atStart => exact ⟨0, A2, n2, c2, Nat.zero_le _, rfl, hn2, HO.out, hne, hB0.out, hB1.out, hB3.out, hB⟩
      case round =>
        clear hB0 hB1 hB3 a0 a1 a2 HO hB hn2 hne
        clear n2 c2
        clear A2
        obtain ⟨j, A2, n2, c2, hj, rfl, hn2, ho, hne, b0, b1, b3, hB⟩ := hrel
        have hB0 := hide b0
        have hB1 := hide b1
        have hB3 := hide b3
        have HO := hide ho; clear ho b1
        obtain ⟨⟨a0, a1, a2⟩, _⟩ := b0
        obtain ⟨⟨d0, d1, d2⟩, _⟩ := b3
        by_cases hlj : j < C
        · by_cases hir : i = row
          · have e1 : ((i : Int) != (row : Int)) = false := by simp [hir]
            have HS := hide (cross_skip (C := C) (xs := xs) (col := col) (j := j) (.inl hir))
            clear hir
            go_wp2
            go_roundw
            case rel => exact ⟨j + 1, A2, n2, c2, by omega, by go_num, by rw [HS.out]; exact hn2, by rw [HS.out]; exact HO.out, hne, hB0.out, hB1.out, hB3.out, hB⟩
            case measure => simp [intOf]; omega
          have e1 : ((i : Int) != (row : Int)) = true := by simpa using (by omega : ¬ (i : Int) = (row : Int))
          by_cases hjc : j = col
          · have e2 : ((j : Int) != (col : Int)) = false := by simp [hjc]
            have HS := hide (cross_skip (C := C) (xs := xs) (row := row) (i := i) (.inr hjc))
            clear hjc hir
            go_wp2
            go_roundw
            case rel => exact ⟨j + 1, A2, n2, c2, by omega, by go_num, by rw [HS.out]; exact hn2, by rw [HS.out]; exact HO.out, hne, hB0.out, hB1.out, hB3.out, hB⟩
            case measure => simp [intOf]; omega
          · have e2 : ((j : Int) != (col : Int)) = true := by simpa using (by omega : ¬ (j : Int) = (col : Int))
            have HS := cross_step (xs := xs) hir hjc hlj hcol
            have hll : (crossTo C row col xs i j).length ≤ 600 := cross_len HC (by omega) (by omega)
            have hd : i * C + j < xs.length := by rw [HL.out]; exact ix_lt hlt hlj
            have hI1 : Hid ((i : Int) * C = ((i * C + j : Nat) : Int) - j) := by rw [Hid]; push_cast; omega
            have h10 : 0 ≤ (i : Int) * C := Int.mul_nonneg (by omega) (by omega)
            have h11 : (i : Int) * C ≤ 1048576 := by have := hI1.out; omega
            obtain ⟨d, hdd⟩ : ∃ d, i * C + j = d := ⟨_, rfl⟩
            rw [hdd] at hd hI1 HS
            obtain ⟨x, hx⟩ : ∃ x, xs.getD d 0 = x := ⟨_, rfl⟩
            rw [hx] at HS
            have HX := hide hx
            obtain ⟨L, hL⟩ : ∃ L, crossTo C row col xs i j = L := ⟨_, rfl⟩
            have HO2 : Own wr (w.heap.size + 1 + 1) (.slice A2 n2 c2) L := by have := HO.out; rwa [hL] at this
            rw [hL] at HS hll hn2
            have HSS := hide HS
            clear HO HS hL hx hdd hir hjc
            have HO := hide HO2
            clear HO2
            have t3 := hB3.out.lt
            go_wp2
            go_region_law (first
                | (go_simp; go_at_call 52; refine (implAt R C i j d x A cap xs _ (SlI.below HA.out.2.2.2.2 (hB.trans (Below.mono (Below.drew (Below.refl _ _)) hB.size))) (by omega) hI1 hd HX h10 h11 (by omega) (by omega)).mono ?_; rintro e w3 ⟨rfl, hbd⟩; have hb : Below wr.heap.size wr w3 := Below.trans (b := wr.drew) (Below.drew (Below.refl _ _)) hbd; have n0 := hide (hB0.out.call hb); have n1 := hide (hB1.out.call hb); have n3 := hide (hB3.out.call hb); have t1 := n1.out.lt; have t3 := n3.out.lt; have hB3w : Below w.heap.size w w3 := kb_call hB (Nat.le_refl _) hb; have HO3 := hide (HO.out.below hb); obtain ⟨⟨g0, g1, g2⟩, _⟩ := n3.out; have r0 := n0.out.1; clear hb)
                | (refine step_append_one rfl _ _ (by rfl) (.slice A2 n2 c2) (w.heap.size + 1 + 1) L (by rfl) (Own.alloc HO3.out _) w3.heap.size x (by rfl) (by simp) (by omega) (by first | omega | (simp; done) | (simp; omega)) ?_; intro v4 w4 ho hg hbk; have k0 := hide (Box3.grown (n0.out.alloc _) hg (fun e => by have := (Own.lt HO3.out _ e.symm).1; omega)); have k1 := hide (Box3.grown (n1.out.alloc _) hg (fun e => by have := (Own.lt HO3.out _ e.symm).1; omega)); have k3 := hide (Box3.grown (n3.out.alloc _) hg (fun e => hne.out e.symm)); have hB4 := Below.grown (hB3w.alloc hB3w.size _) hg (by have := hB3w.size; first | omega | (simp; done) | (simp; omega)) (fun k hk => by have := (Own.lt HO3.out k hk).1; omega); obtain ⟨A4, c4, rfl, _⟩ := Own.sl ho; have hlen : (L ++ [x]).length = n2 + 1 := (by simp [hn2.out]); rw [hlen] at ho hbk ⊢; have HO4 := hide ho; have HBK := hide hbk; clear ho hbk hg hlen; obtain ⟨⟨y0, y1, y2⟩, f0, f1, f2⟩ := k3.out; have s0 := k0.out.1; have t4 := k3.out.lt))
            all_goals
              go_wp2
              go_roundw
              case rel =>
                have hl4 := Own.lt HO4.out
                have hb3l := n3.out.lt
                refine ⟨j + 1, A4, n2 + 1, c4, by omega, by go_num, ?_, ?_, ?_, ?_, ?_, ?_, ?_⟩
                · rw [Hid, HSS.out]; simp [hn2.out]
                · rw [HSS.out]
                  refine Own.set HO4.out ?_ _
                  intro e
                  rcases HBK.out with h1 | h1
                  · exact hne.out (h1 ▸ e)
                  · rw [h1] at e; simp at e; omega
                · intro e
                  rcases HBK.out with h1 | h1
                  · exact hne.out (h1 ▸ e)
                  · rw [h1] at e; simp at e; omega
                · exact k0.out.set (by dsimp only; omega) _
                · exact k1.out.set (by dsimp only; omega) _
                · obtain ⟨⟨y0, y1, y2⟩, f0, f1, f2⟩ := k3.out
                  refine ⟨⟨?_, ?_, ?_⟩, ?_, ?_, ?_⟩ <;> go_simp
                · exact hB4.setCell (by dsimp only; omega) _
              case measure => simp [intOf]; omega
        · have hjj : j = C := by omega
          subst hjj
          have HS := cross_row (row := row) (xs := xs) (i := i) hcol
          have hn3 : Hid ((crossTo j row col xs (i + 1) 0).length = n2) := by rw [Hid, ← HS]; exact hn2.out
          have HO2 : Hid (Own wr (w.heap.size + 1 + 1) (.slice A2 n2 c2) (crossTo j row col xs (i + 1) 0)) := by have := HO.out; rwa [HS] at this
          clear HO HS hn2
          go_wp2
          go_roundw
          case rel => exact ⟨i + 1, A2, n2, c2, by omega, by go_num, hn3, HO2.out, hne, hB0.out, hB1.out, hB3.out, hB⟩
          case measure => simp [intOf]; omega
    · have hii : i = R := by omega
      subst hii
      have HS := cross_end (R := i) (C := C) (row := row) (col := col) (xs := xs) hrow
      have ho2 : Own wo (w.heap.size + 1 + 1) (.slice A2 n2 c2) (crossL i C row col xs) := by have := HO.out; rwa [HS] at this
      clear HS HO
      have HO := hide ho2
      clear ho2
      obtain ⟨⟨x0, x1, x2⟩, f0, f1, f2⟩ := hB1.out
      obtain ⟨⟨d0, d1, d2⟩, _⟩ := hB3.out
      obtain ⟨⟨m0, m1, m2⟩, _⟩ := Box3.stored hB1.out (.int .i64 ((i : Int) - 1)) (.int .i64 ((C : Int) - 1)) (.slice A2 n2 c2)
      have hl1 := own_nm HO.out
      go_wp2
      exact bodyPost_ret (v := mv ((i : Int) - 1) ((C : Int) - 1) (.slice A2 n2 c2)) (by first | (simp [results, Try.results61, go_sem, m0, m1, m2]; done) | (simp [results, Try.results61, go_sem]; done)) rfl ⟨_, rfl, Own.mono (lo := w.heap.size + 1 + 1) (Own.set (Own.set (Own.set HO.out (fun e => by have := hl1 _ e; dsimp only at this; omega) _) (fun e => by have := hl1 _ e; dsimp only at this; omega) _) (fun e => by have := hl1 _ e; dsimp only at this; omega) _) (by omega), (by repeat' (first | exact Below.refl _ _ | (refine Below.alloc ?_ ?_ _) | (refine Below.setCell ?_ ?_ _) | (refine Below.drew ?_) | (refine below_drewN ?_ _) | (refine Below.trans ?_ (Below.mono (by assumption) ?_)) | omega | (simp only [World.size_alloc, World.size_setCell, World.size_drew, size_drewN]; omega)))⟩
set_option maxHeartbeats 8000000 in
theorem specCrossIn (R C row col : Nat) (A : Option Addr) (cap : Nat) (xs : List Int) (w : World) (hA : Sl w A xs.length cap xs) (hlx : xs.length = R * C) (HR : R ≤ 24) (HC : C ≤ 24) (hrow : row < R) (hcol : col < C) :
    Calls Try.prog 57 #[mv R C (.slice A xs.length cap), .int .i64 row, .int .i64 col] w (RetM3 w ((R : Int) - 1) ((C : Int) - 1) (crossL R C row col xs)) := by
  have HA := hide hA; clear hA
  have hxl : xs.length ≤ 576 := by rw [hlx]; exact Nat.mul_le_mul HR HC
  have HL := hide hlx; clear hlx
  go_enter Try.func57, Try.ntmps57
  go_wp2
  go_loopw [8] (fun iv wr => ∃ (i : Nat) (A2 : Option Addr) (n2 c2 : Nat), i ≤ R ∧ iv = .int .i64 i ∧ Hid ((crossTo C row col xs i 0).length = n2) ∧ Own wr (w.heap.size + 1 + 1) (.slice A2 n2 c2) (crossTo C row col xs i 0) ∧ Hid ((Value.slice A2 n2 c2).ownBlock ≠ some (w.heap.size + 1 + 1)) ∧
          Box3 wr w.heap.size (.int .i64 R) (.int .i64 C) (.slice A xs.length cap) ∧ Box3 wr (w.heap.size + 1) (.int .i64 0) (.int .i64 0) (.slice none 0 0) ∧ Box3 wr (w.heap.size + 1 + 1) (.int .i64 ((R : Int) - 1)) (.int .i64 ((C : Int) - 1)) (.slice A2 n2 c2) ∧ Below w.heap.size w wr) (fun iv _ => R - (intOf iv).toNat)
  case atStart =>
    refine ⟨0, none, 0, 0, Nat.zero_le _, rfl, by rw [Hid, cross_start]; rfl, ?_, ?_, ?_, ?_, ?_, ?_⟩
    · rw [cross_start]
      exact Own.nil _ _
    · exact by simp [Hid, Value.ownBlock]
    · exact (by repeat' (first | with_reducible assumption | (with_reducible refine Box3.set ?_ ?_ _) | (with_reducible refine Box3.drew ?_) | (with_reducible refine Box3.drewN ?_ _) | (with_reducible exact Box3.new _ _ _ (by first | rfl | (simp only [World.size_alloc]; done) | (simp only [World.size_alloc]; omega))) | (with_reducible refine Box3.alloc ?_ _) | (with_reducible refine Box3.call ?_ (by assumption)) | (with_reducible refine Box3.grown ?_ (by assumption) (by simp; omega)) | omega | (dsimp only; omega) | (simp only [World.size_alloc, World.size_setCell, World.size_drew, size_drewN]; omega)))
    · exact (by repeat' (first | with_reducible assumption | (with_reducible refine Box3.set ?_ ?_ _) | (with_reducible refine Box3.drew ?_) | (with_reducible refine Box3.drewN ?_ _) | (with_reducible exact Box3.new _ _ _ (by first | rfl | (simp only [World.size_alloc]; done) | (simp only [World.size_alloc]; omega))) | (with_reducible refine Box3.alloc ?_ _) | (with_reducible refine Box3.call ?_ (by assumption)) | (with_reducible refine Box3.grown ?_ (by assumption) (by simp; omega)) | omega | (dsimp only; omega) | (simp only [World.size_alloc, World.size_setCell, World.size_drew, size_drewN]; omega)))
    · exact (by repeat' (first | with_reducible assumption | (with_reducible refine Box3.set ?_ ?_ _) | (with_reducible refine Box3.drew ?_) | (with_reducible refine Box3.drewN ?_ _) | (with_reducible exact Box3.new _ _ _ (by first | rfl | (simp only [World.size_alloc]; done) | (simp only [World.size_alloc]; omega))) | (with_reducible refine Box3.alloc ?_ _) | (with_reducible refine Box3.call ?_ (by assumption)) | (with_reducible refine Box3.grown ?_ (by assumption) (by simp; omega)) | omega | (dsimp only; omega) | (simp only [World.size_alloc, World.size_setCell, World.size_drew, size_drewN]; omega)))
    · exact (by repeat' (first | exact Below.refl _ _ | (refine Below.alloc ?_ ?_ _) | (refine Below.setCell ?_ ?_ _) | (refine Below.drew ?_) | (refine below_drewN ?_ _) | (refine Below.trans ?_ (Below.mono (by assumption) ?_)) | omega | (simp only [World.size_alloc, World.size_setCell, World.size_drew, size_drewN]; omega)))
  case round =>
    obtain ⟨i, A2, n2, c2, hi, rfl, hn2, ho, hne, b0, b1, b3, hB⟩ := hrel
    obtain ⟨wo, rfl⟩ : ∃ wo : World, wo = wr := ⟨_, rfl⟩
    have hB0 := hide b0
    have hB1 := hide b1
    have hB3 := hide b3
    have HO := hide ho; clear ho b1 b3
    obtain ⟨⟨a0, a1, a2⟩, _⟩ := b0
    by_cases hlt : i < R
    · go_wp2
      go_loopw [9] (fun jv wr => ∃ (j : Nat) (A2 : Option Addr) (n2 c2 : Nat), j ≤ C ∧ jv = .int .i64 j ∧ Hid ((crossTo C row col xs i j).length = n2) ∧ Own wr (w.heap.size + 1 + 1) (.slice A2 n2 c2) (crossTo C row col xs i j) ∧ Hid ((Value.slice A2 n2 c2).ownBlock ≠ some (w.heap.size + 1 + 1)) ∧
          Box3 wr w.heap.size (.int .i64 R) (.int .i64 C) (.slice A xs.length cap) ∧ Box3 wr (w.heap.size + 1) (.int .i64 0) (.int .i64 0) (.slice none 0 0) ∧ Box3 wr (w.heap.size + 1 + 1) (.int .i64 ((R : Int) - 1)) (.int .i64 ((C : Int) - 1)) (.slice A2 n2 c2) ∧ Below w.heap.size w wr) (fun jv _ => C - (intOf jv).toNat)
      case atStart => exact ⟨0, A2, n2, c2, Nat.zero_le _, rfl, hn2, HO.out, hne, hB0.out, hB1.out, hB3.out, hB⟩
      case round =>
        clear hB0 hB1 hB3 a0 a1 a2 HO hB hn2 hne
        clear n2 c2
        clear A2
        obtain ⟨j, A2, n2, c2, hj, rfl, hn2, ho, hne, b0, b1, b3, hB⟩ := hrel
        have hB0 := hide b0
        have hB1 := hide b1
        have hB3 := hide b3
        have HO := hide ho; clear ho b1
        obtain ⟨⟨a0, a1, a2⟩, _⟩ := b0
        obtain ⟨⟨d0, d1, d2⟩, _⟩ := b3
        by_cases hlj : j < C
        · by_cases hir : i = row
          · have e1 : ((i : Int) != (row : Int)) = false := by simp [hir]
            have HS := hide (cross_skip (C := C) (xs := xs) (col := col) (j := j) (.inl hir))
            clear hir
            go_wp2
            go_roundw
            case rel => exact ⟨j + 1, A2, n2, c2, by omega, by go_num, by rw [HS.out]; exact hn2, by rw [HS.out]; exact HO.out, hne, hB0.out, hB1.out, hB3.out, hB⟩
            case measure => simp [intOf]; omega
          have e1 : ((i : Int) != (row : Int)) = true := by simpa using (by omega : ¬ (i : Int) = (row : Int))
          by_cases hjc : j = col
          · have e2 : ((j : Int) != (col : Int)) = false := by simp [hjc]
            have HS := hide (cross_skip (C := C) (xs := xs) (row := row) (i := i) (.inr hjc))
            clear hjc hir
            go_wp2
            go_roundw
            case rel => exact ⟨j + 1, A2, n2, c2, by omega, by go_num, by rw [HS.out]; exact hn2, by rw [HS.out]; exact HO.out, hne, hB0.out, hB1.out, hB3.out, hB⟩
            case measure => simp [intOf]; omega
          · have e2 : ((j : Int) != (col : Int)) = true := by simpa using (by omega : ¬ (j : Int) = (col : Int))
            have HS := cross_step (xs := xs) hir hjc hlj hcol
            have hll : (crossTo C row col xs i j).length ≤ 600 := cross_len HC (by omega) (by omega)
            have hd : i * C + j < xs.length := by rw [HL.out]; exact ix_lt hlt hlj
            have hI1 : Hid ((i : Int) * C = ((i * C + j : Nat) : Int) - j) := by rw [Hid]; push_cast; omega
            have h10 : 0 ≤ (i : Int) * C := Int.mul_nonneg (by omega) (by omega)
            have h11 : (i : Int) * C ≤ 1048576 := by have := hI1.out; omega
            obtain ⟨d, hdd⟩ : ∃ d, i * C + j = d := ⟨_, rfl⟩
            rw [hdd] at hd hI1 HS
            obtain ⟨x, hx⟩ : ∃ x, xs.getD d 0 = x := ⟨_, rfl⟩
            rw [hx] at HS
            have HX := hide hx
            obtain ⟨L, hL⟩ : ∃ L, crossTo C row col xs i j = L := ⟨_, rfl⟩
            have HO2 : Own wr (w.heap.size + 1 + 1) (.slice A2 n2 c2) L := by have := HO.out; rwa [hL] at this
            rw [hL] at HS hll hn2
            have HSS := hide HS
            clear HO HS hL hx hdd hir hjc
            have HO := hide HO2
            clear HO2
            obtain ⟨g, off, rfl, hcx⟩ := HA.out.2.2.2.2 (by omega)
            have hce : wr.cell? ⟨g, off + d, none⟩ = some (.int .i64 x) := by have h1 := kc_call (hcx d hd) hB; rwa [HX.out] at h1
            have hgl : g < w.heap.size := World.block_lt_of_cell? _ _ (hcx d hd)
            have hcxH := hide (hcx d hd)
            clear hcx
            have q1 : IntKind.i64.wrap ((i : Int) * C) = (i : Int) * C := IntWalk.i64_in _ (by omega)
            have q3 : (i : Int) * C + j = (d : Int) := by have := hI1.out; omega
            have q5 : IntKind.i64.wrap (d : Int) = (d : Int) := IntWalk.i64_in _ (by omega)
            have z1 : (0 : Int) ≤ (d : Int) := by omega
            have z3 : (d : Int) < (xs.length : Int) := by omega
            have n0 := hide (Box3.drew hB0.out)
            have n1 := hide (Box3.drew hB1.out)
            have n3 := hide (Box3.drew hB3.out)
            have t1 : w.heap.size + 1 < wr.heap.size := hB1.out.lt
            have t3 := hB3.out.lt
            have hB3w : Below w.heap.size w wr.drew := hB.drew
            have HO3 : Hid (Own wr.drew (w.heap.size + 1 + 1) (.slice A2 n2 c2) L) := HO.out
            have r0 := n0.out.1
            go_wp2
            go_region_law (first
                | (refine step_append_one rfl _ _ (by rfl) (.slice A2 n2 c2) (w.heap.size + 1 + 1) L (by rfl) (Own.alloc HO3.out _) wr.heap.size x (by rfl) (by simp) (by omega) (by first | omega | (simp; done) | (simp; omega)) ?_; intro v4 w4 ho hg hbk; have k0 := hide (Box3.grown (n0.out.alloc _) hg (fun e => by have := (Own.lt HO3.out _ e.symm).1; omega)); have k1 := hide (Box3.grown (n1.out.alloc _) hg (fun e => by have := (Own.lt HO3.out _ e.symm).1; omega)); have k3 := hide (Box3.grown (n3.out.alloc _) hg (fun e => hne.out e.symm)); have hB4 := Below.grown (hB3w.alloc hB3w.size _) hg (by have := hB3w.size; first | omega | (simp; done) | (simp; omega)) (fun k hk => by have := (Own.lt HO3.out k hk).1; omega); obtain ⟨A4, c4, rfl, _⟩ := Own.sl ho; have hlen : (L ++ [x]).length = n2 + 1 := (by simp [hn2.out]); rw [hlen] at ho hbk ⊢; have HO4 := hide ho; have HBK := hide hbk; have hel : w4.cell? ⟨g, off + d, none⟩ = some (.int .i64 x) := (by have h1 := kc_call (hcxH.out) hB4; rwa [HX.out] at h1); clear ho hbk hg hlen; obtain ⟨⟨y0, y1, y2⟩, f0, f1, f2⟩ := k3.out; have s0 := k0.out.1; have t4 := k3.out.lt))
            all_goals
              go_wp2
              go_roundw
              case rel =>
                have hl4 := Own.lt HO4.out
                have hb3l := n3.out.lt
                refine ⟨j + 1, A4, n2 + 1, c4, by omega, by go_num, ?_, ?_, ?_, ?_, ?_, ?_, ?_⟩
                · rw [Hid, HSS.out]; simp [hn2.out]
                · rw [HSS.out]
                  refine Own.set HO4.out ?_ _
                  intro e
                  rcases HBK.out with h1 | h1
                  · exact hne.out (h1 ▸ e)
                  · rw [h1] at e; simp at e; omega
                · intro e
                  rcases HBK.out with h1 | h1
                  · exact hne.out (h1 ▸ e)
                  · rw [h1] at e; simp at e; omega
                · exact k0.out.set (by dsimp only; omega) _
                · exact k1.out.set (by dsimp only; omega) _
                · obtain ⟨⟨y0, y1, y2⟩, f0, f1, f2⟩ := k3.out
                  refine ⟨⟨?_, ?_, ?_⟩, ?_, ?_, ?_⟩ <;> go_simp
                · exact hB4.setCell (by dsimp only; omega) _
              case measure => simp [intOf]; omega
        · have hjj : j = C := by omega
          subst hjj
          have HS := cross_row (row := row) (xs := xs) (i := i) hcol
          have hn3 : Hid ((crossTo j row col xs (i + 1) 0).length = n2) := by rw [Hid, ← HS]; exact hn2.out
          have HO2 : Hid (Own wr (w.heap.size + 1 + 1) (.slice A2 n2 c2) (crossTo j row col xs (i + 1) 0)) := by have := HO.out; rwa [HS] at this
          clear HO HS hn2
          go_wp2
          go_roundw
          case rel => exact ⟨i + 1, A2, n2, c2, by omega, by go_num, hn3, HO2.out, hne, hB0.out, hB1.out, hB3.out, hB⟩
          case measure => simp [intOf]; omega
    · have hii : i = R := by omega
      subst hii
      have HS := cross_end (R := i) (C := C) (row := row) (col := col) (xs := xs) hrow
      have ho2 : Own wo (w.heap.size + 1 + 1) (.slice A2 n2 c2) (crossL i C row col xs) := by have := HO.out; rwa [HS] at this
      clear HS HO
      have HO := hide ho2
      clear ho2
      obtain ⟨⟨x0, x1, x2⟩, f0, f1, f2⟩ := hB1.out
      obtain ⟨⟨d0, d1, d2⟩, _⟩ := hB3.out
      obtain ⟨⟨m0, m1, m2⟩, _⟩ := Box3.stored hB1.out (.int .i64 ((i : Int) - 1)) (.int .i64 ((C : Int) - 1)) (.slice A2 n2 c2)
      have hl1 := own_nm HO.out
      go_wp2
      exact bodyPost_ret (v := mv ((i : Int) - 1) ((C : Int) - 1) (.slice A2 n2 c2)) (by first | (simp [results, Try.results57, go_sem, m0, m1, m2]; done) | (simp [results, Try.results57, go_sem]; done)) rfl ⟨_, rfl, Own.mono (lo := w.heap.size + 1 + 1) (Own.set (Own.set (Own.set HO.out (fun e => by have := hl1 _ e; dsimp only at this; omega) _) (fun e => by have := hl1 _ e; dsimp only at this; omega) _) (fun e => by have := hl1 _ e; dsimp only at this; omega) _) (by omega), (by repeat' (first | exact Below.refl _ _ | (refine Below.alloc ?_ ?_ _) | (refine Below.setCell ?_ ?_ _) | (refine Below.drew ?_) | (refine below_drewN ?_ _) | (refine Below.trans ?_ (Below.mono (by assumption) ?_)) | omega | (simp only [World.size_alloc, World.size_setCell, World.size_drew, size_drewN]; omega)))⟩
end Go.Proofs.Ytchlaebkigmfgaa
