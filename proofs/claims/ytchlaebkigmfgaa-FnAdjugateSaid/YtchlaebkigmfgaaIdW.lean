/- The walks of IdentityMatrix. -/
import Derived.Test.YtchlaebkigmfgaaNewW
import Derived.Test.YtchlaebkigmfgaaRes
namespace Go.Proofs.Ytchlaebkigmfgaa
open Go.RowKit
set_option linter.unusedSimpArgs false
set_option linter.unusedVariables false

/-- The first k ones of the diagonal are set. -/
def idTo (n : Nat) : Nat → List Int
  | 0 => List.replicate (n * n) 0
  | k + 1 => (idTo n k).set (k * n + k) 1
theorem idTo_length (n k : Nat) : (idTo n k).length = n * n := by
  induction k with
  | zero => simp [idTo]
  | succ k ih => simp [idTo, ih]
def idOk (n : Int) : Bool := decide (0 ≤ n ∧ n ≤ 24)
def idN (n : Int) : Int := if idOk n = true then n else 0
def idL (n : Int) : List Int := if idOk n = true then idTo n.toNat n.toNat else []
theorem keepCell {w w' : World} {g b o : Nat} {v : Value} (hg : w.grownBy w' (some g)) (h : w.cell? ⟨b, o, none⟩ = some v) (hne : b ≠ g) : w'.cell? ⟨b, o, none⟩ = some v :=
  hg.cell h (by simp [hne])
theorem nn_le {n : Nat} (h : n ≤ 24) : n * n ≤ 576 := Nat.mul_le_mul h h
theorem diag_lt {k n : Nat} (h : k < n) : k * n + k < n * n := by
  have : (k + 1) * n ≤ n * n := Nat.mul_le_mul_right _ h
  rw [Nat.add_mul] at this
  omega

set_option maxHeartbeats 2000000 in
theorem specIdentity_yes (n : Nat) (hn : n ≤ 24) (w : World) :
    Calls Try.prog 73 #[.int .i64 (n : Int)] w (RetMat w n n (idTo n n) true) := by
  have hnn := nn_le hn
  have HN : Hid ((n : Int) * n = ((n * n : Nat) : Int)) := by simp [Hid]
  have HL : Hid (∀ k, (idTo n k).length = n * n) := idTo_length n
  have hni : ((n : Int) ≤ 24) := by omega
  have hn0 : (0 : Int) ≤ (n : Int) := by omega
  obtain ⟨nn, hnne⟩ : ∃ nn, n * n = nn := ⟨_, rfl⟩
  rw [hnne] at HN HL hnn
  have HE := hide hnne; clear hnne
  go_enter Try.func73, Try.ntmps73
  have dI : decide (0 ≤ (n : Int) ∧ (n : Int) ≤ 24) = true := decide_eq_true ⟨hn0, hni⟩
  go_wp2_with (first | (go_at_call 76; refine (specIn _ _ _ _).mono ?_; rintro e w' ⟨rfl, rfl⟩) | (go_at_call 56; refine (specL3New n n nn _ HN (by omega)).mono ?_; rintro e w1 ⟨rfl, ho, hb⟩; obtain ⟨hc, hf⟩ := bcell hb; have hz := hb.size; (try simp only [World.size_alloc, World.size_setCell, World.size_drew, size_drewN] at hz); (first | have hs := up3 hz | have hs := up2 hz | have hs := up1 hz | have hs := up0 hz); (try have q10 := hs _ q9); (try have q9 := hs _ q8); (try have q8 := hs _ q7); (try have q7 := hs _ q6); (try have q6 := hs _ q5); (try have q5 := hs _ q4); (try have q4 := hs _ q3); (try have q3 := hs _ q2); (try have q2 := hs _ q1); (try have p7 := hs _ p6); (try have p6 := hs _ p5); (try have p5 := hs _ p4); (try have p4 := hs _ p3); (try have p3 := hs _ p2); (try have p2 := hs _ p1); (try have q1 := new1 hz); (try have p1 := new2 hz); (try have r1 := new3 hz); (try simp only [World.size_alloc, World.size_setCell, World.size_drew, size_drewN] at ho)))
  have hgl : w.heap.size + 1 + 1 < w1.heap.size := (Own.lt ho _ rfl).2
  go_loopw [5] (fun i wr => ∃ k : Nat, k ≤ n ∧ i = .int .i64 k ∧ Own wr (w.heap.size + 1) (.slice (some ⟨w.heap.size + 1 + 1, 0, none⟩) nn nn) (idTo n k) ∧
      wr.cell? ⟨w1.heap.size, 0, none⟩ = some (.int .i64 n) ∧ wr.cell? ⟨w1.heap.size, 1, none⟩ = some (.int .i64 n) ∧ wr.cell? ⟨w1.heap.size, 2, none⟩ = some (.slice (some ⟨w.heap.size + 1 + 1, 0, none⟩) nn nn) ∧
      wr.cell? ⟨w.heap.size, 0, none⟩ = some (.int .i64 0) ∧ wr.cell? ⟨w.heap.size, 1, none⟩ = some (.int .i64 0) ∧ wr.cell? ⟨w.heap.size, 2, none⟩ = some (.slice none 0 0) ∧ wr.frozen? ⟨w.heap.size, 0, none⟩ = false ∧ wr.frozen? ⟨w.heap.size, 1, none⟩ = false ∧ wr.frozen? ⟨w.heap.size, 2, none⟩ = false ∧ Below w.heap.size w wr)
    (fun i _ => n - (intOf i).toNat)
  case atStart =>
    refine ⟨0, Nat.zero_le _, rfl, ?_, ?_, ?_, ?_, ?_, ?_, ?_, ?_, ?_, ?_, ?_⟩
    · have := Own.alloc ho (.cells #[.int .i64 n, .int .i64 n, .slice (some ⟨w.heap.size + 1 + 1, 0, none⟩) nn nn] 28)
      rw [idTo, HE.out]
      exact this
    all_goals first | (go_simp; done) | exact (by repeat' (first | exact Below.refl _ _ | (refine Below.alloc ?_ ?_ _) | (refine Below.setCell ?_ ?_ _) | (refine Below.drew ?_) | (refine below_drewN ?_ _) | (refine Below.trans ?_ (Below.mono (by assumption) ?_)) | omega | (simp only [World.size_alloc, World.size_setCell, World.size_drew, size_drewN]; omega)))
  case round =>
    obtain ⟨k, hk, rfl, ho, c0, c1, c2, d0, d1, d2, f0, f1, f2, hB⟩ := hrel
    have HO := hide ho; clear ho
    by_cases hlt : k < n
    · have hkk : k * n + k < nn := by rw [← HE.out]; exact diag_lt hlt
      have HI : Hid ((k : Int) * n = ((k * n + k : Nat) : Int) - k) := by rw [Hid]; push_cast; omega
      have hkn : 0 ≤ (k : Int) * n := by have := HI.out; omega
      have hkn2 : (k : Int) * n ≤ 1048576 := by have := HI.out; omega
      have hlen : (idTo n k).length = nn := HL.out k
      obtain ⟨d, hd⟩ : ∃ d : Nat, k * n + k = d := ⟨_, rfl⟩
      rw [hd] at hkk HI
      have HD := hide hd; clear hd
      have hown : wr.ownsRow (w.heap.size + 1) 3 1 (.slice (some ⟨w.heap.size + 1 + 1, 0, none⟩) nn nn) nn (iv (idTo n k)) := by have := HO.out; rwa [Own, hlen] at this
      have hst := World.ownsRow.stored hown d (.int .i64 1)
      have hce := World.ownsRow.cellAt hown d (by omega)
      have hfzc := World.ownsRow.frozenAt hown d
      have hex : ∃ v, wr.cell? ⟨w.heap.size + 1 + 1, d, none⟩ = some v := by
        rw [hce]
        exact ⟨_, List.getElem?_eq_getElem (by rw [iv, List.length_map, hlen]; exact hkk)⟩
      obtain ⟨v, hv⟩ := hex
      have hik : (k : Int) * n + k = (d : Int) := by have := HI.out; omega
      have hg := hst.2
      have HO2 : Hid (Own (wr.setCell ⟨w.heap.size + 1 + 1, d, none⟩ (.int .i64 1)) (w.heap.size + 1) (.slice (some ⟨w.heap.size + 1 + 1, 0, none⟩) nn nn) (idTo n (k + 1))) := by
        have := hst.1
        have hl2 : (idTo n (k + 1)).length = nn := HL.out (k + 1)
        rw [Hid, Own, hl2, idTo, HD.out]
        simpa [iv, List.map_set] using this
      have hk2 : (k : Int) < n := by omega
      have g0 := keepCell hg c0 (by omega)
      have g1 := keepCell hg c1 (by omega)
      have g2 := keepCell hg c2 (by omega)
      have g3 := keepCell hg d0 (by omega)
      have g4 := keepCell hg d1 (by omega)
      have g5 := keepCell hg d2 (by omega)
      have hfz : ∀ o, (wr.setCell ⟨w.heap.size + 1 + 1, d, none⟩ (.int .i64 1)).frozen? ⟨w.heap.size, o, none⟩ = wr.frozen? ⟨w.heap.size, o, none⟩ := fun o => World.frozen?_of_block (hg.block w.heap.size (World.block_lt_of_cell? _ ⟨w.heap.size, 0, none⟩ d0) (by simp; omega))
      have g6 := (hfz 0).trans f0
      have g7 := (hfz 1).trans f1
      have g8 := (hfz 2).trans f2
      have HG := hide (And.intro g0 (And.intro g1 (And.intro g2 (And.intro g3 (And.intro g4 (And.intro g5 (And.intro g6 (And.intro g7 g8))))))))
      have hB2 : Below w.heap.size w (wr.setCell ⟨w.heap.size + 1 + 1, d, none⟩ (.int .i64 1)) := hB.grown hg hB.size (fun j hj => by cases hj; omega)
      clear hown hst hce hg hfz g0 g1 g2 g3 g4 g5 g6 g7 g8 f0 f1 f2 d0 d1 d2 hlen
      go_wp2
      go_roundw
      case rel =>
        obtain ⟨g0, g1, g2, g3, g4, g5, g6, g7, g8⟩ := HG.out
        exact ⟨k + 1, by omega, by go_num, HO2.out, g0, g1, g2, g3, g4, g5, g6, g7, g8, hB2⟩
      case measure => simp [intOf]; omega
    · have hkk : k = n := by omega
      subst hkk
      go_wp2
      have m0 := d0
      have m1 := d1
      have m2 := d2
      exact bodyPost_ret (v := .tuple #[mv (k) (k) (.slice (some ⟨w.heap.size + 1 + 1, 0, none⟩) nn nn), .bool true]) (by first | (simp [results, Try.results73, go_sem, m0, m1, m2]; done) | (simp [results, Try.results73, go_sem]; done)) rfl ⟨_, rfl, Own.mono (lo := w.heap.size + 1) (by repeat' (first | with_reducible exact HO.out | with_reducible assumption | (with_reducible refine Own.set ?_ (own_ne ?_) _) | (with_reducible refine Own.set ?_ (own_nl (by assumption) (by first | omega | (dsimp only; omega))) _) | (with_reducible refine Own.alloc ?_ _) | (with_reducible refine Own.drewN ?_ _) | omega | (dsimp only; omega))) (by omega), (by repeat' (first | exact Below.refl _ _ | (refine Below.alloc ?_ ?_ _) | (refine Below.setCell ?_ ?_ _) | (refine Below.drew ?_) | (refine below_drewN ?_ _) | (refine Below.trans ?_ (Below.mono (by assumption) ?_)) | omega | (simp only [World.size_alloc, World.size_setCell, World.size_drew, size_drewN]; omega)))⟩

theorem specIdentity_no (n : Int) (hn : idOk n = false) (w : World) :
    Calls Try.prog 73 #[.int .i64 n] w (RetMat w 0 0 [] false) := by
  have hh : ¬ (0 ≤ n ∧ n ≤ 24) := of_decide_eq_false hn
  go_enter Try.func73, Try.ntmps73
  have dI : decide (0 ≤ n ∧ n ≤ 24) = false := hn
  go_wp2_with (go_at_call 76; refine (specIn _ _ _ _).mono ?_; rintro e w' ⟨rfl, rfl⟩)
  all_goals first
    | (exfalso; omega)
    | exact bodyPost_ret (v := .tuple #[mv (0) (0) (.slice none 0 0), .bool false]) (by first | (simp [results, Try.results73, go_sem, m0, m1, m2]; done) | (simp [results, Try.results73, go_sem]; done)) rfl ⟨_, rfl, Own.nil _ _, (by repeat' (first | exact Below.refl _ _ | (refine Below.alloc ?_ ?_ _) | (refine Below.setCell ?_ ?_ _) | (refine Below.drew ?_) | (refine below_drewN ?_ _) | (refine Below.trans ?_ (Below.mono (by assumption) ?_)) | omega | (simp only [World.size_alloc, World.size_setCell, World.size_drew, size_drewN]; omega)))⟩
theorem specIdentity (n : Int) (w : World) :
    Calls Try.prog 73 #[.int .i64 n] w (RetMat w (idN n) (idN n) (idL n) (idOk n)) := by
  rcases Bool.eq_false_or_eq_true (idOk n) with h | h
  · have h' : 0 ≤ n ∧ n ≤ 24 := of_decide_eq_true h
    obtain ⟨m, rfl⟩ := Int.eq_ofNat_of_zero_le h'.1
    rw [show idN (m : Int) = m from by simp [idN, h], show idL (m : Int) = idTo m m from by simp [idL, h], h]
    exact specIdentity_yes m (by omega) w
  · rw [show idN n = 0 from by simp [idN, h], show idL n = [] from by simp [idL, h], h]
    exact specIdentity_no n h w
end Go.Proofs.Ytchlaebkigmfgaa
