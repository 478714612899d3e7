/- The laws' helpers over slices of row operations, and UndoRowOps: their walks. -/
import Derived.Test.YthbmmoajfghjbaaOpsX
import Derived.Test.YthbmmoajfghjbaaMarkW
import Derived.Deep.QuietTactic
import Derived.BigQuiet
import Derived.Deep.RegionHeld3
namespace Go.Proofs.Ythbmmoajfghjbaa
set_option linter.unusedSimpArgs false
set_option linter.unusedVariables false
open Go.RowKit Go.Joins
theorem made4 (m : Nat) : (madeCells #[Value.int .i64 0, Value.int .i64 0, Value.int .i64 0, Value.int .i64 0] m).toList = iv (List.replicate m 0) := by
  apply List.ext_getElem
  · simp [iv, size_madeCells]
  · intro i h1 h2
    simp only [madeCells, Array.toList_map, List.getElem_map, Array.getElem_toList, iv, List.getElem_replicate, Array.getElem_range]
    have : i % 4 = 0 ∨ i % 4 = 1 ∨ i % 4 = 2 ∨ i % 4 = 3 := by omega
    rcases this with h | h | h | h <;> simp [h]
theorem set_int (xs : List Int) (k : Nat) (hk : k < xs.length) : (xs.take k ++ List.replicate (xs.length - k) 0).set k (xs.getD k 0) = xs.take (k + 1) ++ List.replicate (xs.length - (k + 1)) 0 := by
  have h := set_step xs k hk
  have h2 : ∀ a b : List Int, iv a = iv b → a = b := fun a b e => by
    induction a generalizing b with
    | nil => cases b with
      | nil => rfl
      | cons _ _ => simp [iv] at e
    | cons x a ih => cases b with
      | nil => simp [iv] at e
      | cons y b => simp only [iv, List.map_cons, List.cons.injEq, Value.int.injEq, true_and] at e; rw [e.1, ih b e.2]
  apply h2
  rw [← h]
  simp [iv, List.map_set]
theorem OwnX.set {w : World} {lo g cap n : Nat} {cs : List Int} (h : OwnX w lo (.slice (some ⟨g, 0, none⟩) n cap) n cs) (j : Nat) (x : Int) : OwnX (w.setCell ⟨g, j, none⟩ (.int .i64 x)) lo (.slice (some ⟨g, 0, none⟩) n cap) n (cs.set j x) ∧ w.grownBy (w.setCell ⟨g, j, none⟩ (.int .i64 x)) (some g) := by
  have := World.ownsRow.stored h.2 j (.int .i64 x)
  refine ⟨⟨by rw [List.length_set]; exact h.1, ?_⟩, this.2⟩
  rw [iv, List.map_set]
  exact this.1
theorem OwnX.cell {w : World} {lo g cap n : Nat} {cs : List Int} (h : OwnX w lo (.slice (some ⟨g, 0, none⟩) n cap) n cs) (j : Nat) (hj : j < n * 4) : w.cell? ⟨g, j, none⟩ = some (.int .i64 (cs.getD j 0)) := by
  rw [World.ownsRow.cellAt h.2 j hj]
  have : j < cs.length := by rw [h.1]; exact hj
  simp [iv, List.getD, this]
theorem OwnX.fz {w : World} {lo g cap n : Nat} {cs : List Int} (h : OwnX w lo (.slice (some ⟨g, 0, none⟩) n cap) n cs) (j : Nat) : w.frozen? ⟨g, j, none⟩ = false := World.ownsRow.frozenAt h.2 j
/-- Four stores, one behind the other. -/
theorem OwnX.set4 {w : World} {lo g cap n : Nat} {cs : List Int} (h : OwnX w lo (.slice (some ⟨g, 0, none⟩) n cap) n cs) (j : Nat) (a b c d : Int) :
    OwnX ((((w.setCell ⟨g, j, none⟩ (.int .i64 a)).setCell ⟨g, j + 1, none⟩ (.int .i64 b)).setCell ⟨g, j + 2, none⟩ (.int .i64 c)).setCell ⟨g, j + 3, none⟩ (.int .i64 d)) lo (.slice (some ⟨g, 0, none⟩) n cap) n ((((cs.set j a).set (j + 1) b).set (j + 2) c).set (j + 3) d) ∧
      w.grownBy ((((w.setCell ⟨g, j, none⟩ (.int .i64 a)).setCell ⟨g, j + 1, none⟩ (.int .i64 b)).setCell ⟨g, j + 2, none⟩ (.int .i64 c)).setCell ⟨g, j + 3, none⟩ (.int .i64 d)) (some g) := by
  have h1 := h.set j a
  have h2 := h1.1.set (j + 1) b
  have h3 := h2.1.set (j + 2) c
  have h4 := h3.1.set (j + 3) d
  exact ⟨h4.1, grownBy_trans (grownBy_trans (grownBy_trans h1.2 h2.2) h3.2) h4.2⟩
theorem fill4 (xs : List Int) (k : Nat) (hk : k + 3 < xs.length) : ((((xs.take k ++ List.replicate (xs.length - k) 0).set k (xs.getD k 0)).set (k + 1) (xs.getD (k + 1) 0)).set (k + 2) (xs.getD (k + 2) 0)).set (k + 3) (xs.getD (k + 3) 0) = xs.take (k + 4) ++ List.replicate (xs.length - (k + 4)) 0 := by
  rw [set_int xs k (by omega), set_int xs (k + 1) (by omega), set_int xs (k + 2) (by omega), set_int xs (k + 3) (by omega)]
theorem SlX.at4 {w : World} {A : Option Addr} {n : Nat} {cs : List Int} (h : SlX w A n cs) {k : Nat} (hk : k < n) : ∃ g off, A = some ⟨g, off, none⟩ ∧ w.cell? ⟨g, off + k * 4, none⟩ = some (.int .i64 (cs.getD (k * 4) 0)) ∧ w.cell? ⟨g, off + k * 4 + 1, none⟩ = some (.int .i64 (cs.getD (k * 4 + 1) 0)) ∧ w.cell? ⟨g, off + k * 4 + 2, none⟩ = some (.int .i64 (cs.getD (k * 4 + 2) 0)) ∧ w.cell? ⟨g, off + k * 4 + 3, none⟩ = some (.int .i64 (cs.getD (k * 4 + 3) 0)) := by
  obtain ⟨g, off, e, hc⟩ := h (by omega)
  exact ⟨g, off, e, hc (k * 4) (by omega), by rw [Nat.add_assoc]; exact hc (k * 4 + 1) (by omega), by rw [Nat.add_assoc]; exact hc (k * 4 + 2) (by omega), by rw [Nat.add_assoc]; exact hc (k * 4 + 3) (by omega)⟩
set_option maxHeartbeats 2000000 in
theorem toRowOpS (A : Option Addr) (c n : Nat) (cs : List Int) (w : World) (hA : SlX w A n cs) (hl : cs.length = n * 4) (hn : n ≤ 1048576) :
    Calls Try.prog 9 #[.slice A n c] w fun e w' => e = .returned (.slice (some ⟨w.heap.size, 0, none⟩) n n) ∧ OwnX w' w.heap.size (.slice (some ⟨w.heap.size, 0, none⟩) n n) n cs ∧ Below w.heap.size w w' := by
  obtain ⟨i0, hi, hz0, hz1, hz2⟩ := info_parts op_info
  have HA := hide hA
  have HLEN := hide hl
  clear hA
  go_enter Try.func9, Try.ntmps9
  go_wp2_with (at_make; refine wpList_make_full _ rfl _ _ 24 rfl w.heap.size 40 i0 (opv 0 0 0 0) 4 Try.underlying24 hi hz0 hz1 _ _ _ _ n rfl rfl (by omega) (by omega) ?b2 ?b3 (Nat.le_refl _) ?_)
  case b2 => rw [hz2]; omega
  case b3 => unfold maxLen; omega
  intro w0 hown0 hgrow0
  have hown1 : OwnX w0 w.heap.size (.slice (some ⟨w.heap.size, 0, none⟩) n n) n (List.replicate (n * 4) 0) := ⟨by simp, by
    have := hown0
    rw [← made4]; exact this⟩
  have HO0 := hide hown1
  clear hown0 hown1 hl
  go_wp2
  go_loopw [4] (fun i wr => ∃ k : Nat, k ≤ n ∧ i = .int .i64 k ∧ OwnX wr w.heap.size (.slice (some ⟨w.heap.size, 0, none⟩) n n) n (cs.take (k * 4) ++ List.replicate (cs.length - k * 4) 0) ∧ Below w.heap.size w wr) (fun i _ => n - (intOf i).toNat)
  case atStart => exact ⟨0, Nat.zero_le _, rfl, by rw [HLEN.out]; simpa using HO0.out, (Below.refl _ _).grown hgrow0 (Nat.le_refl _) (fun k h => by cases h)⟩
  case round =>
    clear HO0
    obtain ⟨k, hk, rfl, hown, hB⟩ := hrel
    by_cases hlt : k < n
    · obtain ⟨g, off, rfl, c0, c1, c2, c3⟩ := HA.out.at4 hlt
      have h0 := kc_call c0 hB
      have h1 := kc_call c1 hB
      have h2 := kc_call c2 hB
      have h3 := kc_call c3 hB
      have HO := hide hown
      clear hown c0 c1 c2 c3
      have hf := fill4 cs (k * 4) (by have := HLEN.out; omega)
      obtain ⟨x0, e0⟩ : ∃ x, cs.getD (k * 4) 0 = x := ⟨_, rfl⟩
      obtain ⟨x1, e1⟩ : ∃ x, cs.getD (k * 4 + 1) 0 = x := ⟨_, rfl⟩
      obtain ⟨x2, e2⟩ : ∃ x, cs.getD (k * 4 + 2) 0 = x := ⟨_, rfl⟩
      obtain ⟨x3, e3⟩ : ∃ x, cs.getD (k * 4 + 3) 0 = x := ⟨_, rfl⟩
      rw [e0] at h0 hf
      rw [e1] at h1 hf
      rw [e2] at h2 hf
      rw [e3] at h3 hf
      have HF := hide hf
      clear e0 e1 e2 e3 hf
      go_wp2_with (go_at_call 17; refine (toRowOp _ _ _ _ _).mono ?_; rintro e w2 ⟨rfl, hb⟩; have HO2 := hide (HO.out.below hb); have HB2 := hide (kb_call hB (Nat.le_refl _) hb); have q0 := HO2.out.cell (k * 4) (by omega); have q1 := HO2.out.cell (k * 4 + 1) (by omega); have q2 := HO2.out.cell (k * 4 + 2) (by omega); have q3 := HO2.out.cell (k * 4 + 3) (by omega); have f0 := HO2.out.fz (k * 4); have f1 := HO2.out.fz (k * 4 + 1); have f2 := HO2.out.fz (k * 4 + 2); have f3 := HO2.out.fz (k * 4 + 3); clear hb)
      go_roundw
      case rel =>
        have h4 := HO2.out.set4 (k * 4) x0 x1 x2 x3
        rw [HF.out] at h4
        refine ⟨k + 1, by omega, by go_num, ?_, (HB2.out).grown h4.2 HB2.out.size (fun j hj => by cases hj; exact Nat.le_refl _)⟩
        rw [show (k + 1) * 4 = k * 4 + 4 by omega]
        exact h4.1
      case measure => simp [intOf]; omega
    · have hkk : k = n := by omega
      have HO : Hid (OwnX wr w.heap.size (.slice (some ⟨w.heap.size, 0, none⟩) n n) n cs) := by
        have := hown
        rw [hkk, ← HLEN.out, Nat.sub_self, List.replicate_zero, List.append_nil, List.take_of_length_le (Nat.le_refl _)] at this
        exact this
      clear hown
      have d1 : ¬ ((k : Int) < (n : Int)) := by omega
      go_wp2
      go_ret
      exact ⟨rfl, HO.out, hB⟩
set_option maxHeartbeats 2000000 in
theorem eqRowOpS_same (A B : Option Addr) (c d n : Nat) (cs : List Int) (w : World) (hA : SlX w A n cs) (hB : SlX w B n cs) (hn : n ≤ 1048576) :
    Calls Try.prog 11 #[.slice A n c, .slice B n d] w fun e w' => e = .returned (.bool true) ∧ Below w.heap.size w w' := by
  have e1 : ((n : Int) != (n : Int)) = false := by simp
  have HA := hide hA
  have HB := hide hB
  clear hA hB
  go_enter Try.func11, Try.ntmps11
  go_wp2
  go_loopw [5] (fun i wr => ∃ k : Nat, k ≤ n ∧ i = .int .i64 k ∧ Below w.heap.size w wr) (fun i _ => n - (intOf i).toNat)
  case atStart => exact ⟨0, Nat.zero_le _, rfl, Below.refl _ _⟩
  case round =>
    obtain ⟨k, hk, rfl, hBW⟩ := hrel
    by_cases hlt : k < n
    · obtain ⟨g, off, rfl, c0, c1, c2, c3⟩ := HA.out.at4 hlt
      obtain ⟨g', off', rfl, d0, d1, d2, d3⟩ := HB.out.at4 hlt
      have h0 := kc_call c0 hBW
      have h1 := kc_call c1 hBW
      have h2 := kc_call c2 hBW
      have h3 := kc_call c3 hBW
      have i0 := kc_call d0 hBW
      have i1 := kc_call d1 hBW
      have i2 := kc_call d2 hBW
      have i3 := kc_call d3 hBW
      clear c0 c1 c2 c3 d0 d1 d2 d3
      obtain ⟨x0, e0⟩ : ∃ x, cs.getD (k * 4) 0 = x := ⟨_, rfl⟩
      obtain ⟨x1, e1'⟩ : ∃ x, cs.getD (k * 4 + 1) 0 = x := ⟨_, rfl⟩
      obtain ⟨x2, e2⟩ : ∃ x, cs.getD (k * 4 + 2) 0 = x := ⟨_, rfl⟩
      obtain ⟨x3, e3⟩ : ∃ x, cs.getD (k * 4 + 3) 0 = x := ⟨_, rfl⟩
      rw [e0] at h0 i0
      rw [e1'] at h1 i1
      rw [e2] at h2 i2
      rw [e3] at h3 i3
      clear e0 e1' e2 e3
      have hk0 : (0 : Int) ≤ (k : Int) := by omega
      have hk1 : (k : Int) < (n : Int) := by omega
      have HBW := hide hBW
      have KS : Hid (∀ w', Below wr.heap.size wr w' → w'.cell? ⟨g, off + k * 4, none⟩ = some (.int .i64 x0) ∧ w'.cell? ⟨g, off + k * 4 + 1, none⟩ = some (.int .i64 x1) ∧ w'.cell? ⟨g, off + k * 4 + 2, none⟩ = some (.int .i64 x2) ∧ w'.cell? ⟨g, off + k * 4 + 3, none⟩ = some (.int .i64 x3) ∧ w'.cell? ⟨g', off' + k * 4, none⟩ = some (.int .i64 x0) ∧ w'.cell? ⟨g', off' + k * 4 + 1, none⟩ = some (.int .i64 x1) ∧ w'.cell? ⟨g', off' + k * 4 + 2, none⟩ = some (.int .i64 x2) ∧ w'.cell? ⟨g', off' + k * 4 + 3, none⟩ = some (.int .i64 x3) ∧ Below wr.heap.size wr w') := fun w' h => ⟨kc_call h0 h, kc_call h1 h, kc_call h2 h, kc_call h3 h, kc_call i0 h, kc_call i1 h, kc_call i2 h, kc_call i3 h, h⟩
      go_wp2
      go_region_held3 (fun w' => w'.cell? ⟨g, off + k * 4, none⟩ = some (.int .i64 x0) ∧ w'.cell? ⟨g, off + k * 4 + 1, none⟩ = some (.int .i64 x1) ∧ w'.cell? ⟨g, off + k * 4 + 2, none⟩ = some (.int .i64 x2) ∧ w'.cell? ⟨g, off + k * 4 + 3, none⟩ = some (.int .i64 x3) ∧ w'.cell? ⟨g', off' + k * 4, none⟩ = some (.int .i64 x0) ∧ w'.cell? ⟨g', off' + k * 4 + 1, none⟩ = some (.int .i64 x1) ∧ w'.cell? ⟨g', off' + k * 4 + 2, none⟩ = some (.int .i64 x2) ∧ w'.cell? ⟨g', off' + k * 4 + 3, none⟩ = some (.int .i64 x3) ∧ Below wr.heap.size wr w')
        (first
          | (with_reducible exact KS.out _ (Below.drew (Below.refl _ _)))
          | (have hh := (‹_ ∧ _ ∧ _ ∧ _ ∧ _ ∧ _ ∧ _ ∧ _ ∧ Below wr.heap.size wr _›).2.2.2.2.2.2.2.2
             with_reducible exact KS.out _ (kb_call hh (Nat.le_refl _) hb)))
        (first
          | (go_at_call 28; refine (eqRowOp_same _ _ _ _ _).mono ?_; rintro e w2 ⟨rfl, hb⟩))
      have HH := hide ((‹_ ∧ _ ∧ _ ∧ _ ∧ _ ∧ _ ∧ _ ∧ _ ∧ Below wr.heap.size wr _›).2.2.2.2.2.2.2.2)
      go_wp2
      go_roundw
      case rel => exact ⟨k + 1, by omega, by go_num, HBW.out.trans (HH.out.mono HBW.out.size)⟩
      case measure => simp [intOf]; omega
    · have d1 : ¬ ((k : Int) < (n : Int)) := by omega
      go_wp2
      go_ret
      exact ⟨rfl, hBW⟩
theorem szRowOpS_yes (A : Option Addr) (c n : Nat) (left : Int) (w : World) (h1 : 0 ≤ left) (h2 : left ≤ 1048576) (hn : (n : Int) ≤ left) :
    Calls Try.prog 7 #[.slice A n c, .int .i64 left] w fun e w' => e = .returned (.int .i64 (left - n)) ∧ w = w' := by
  go_enter Try.func7, Try.ntmps7
  go_wp2
  go_returns
  exact ⟨rfl, rfl⟩
theorem szRowOpS_no (A : Option Addr) (c n : Nat) (left : Int) (w : World) (h1 : 0 ≤ left) (h2 : left ≤ 1048576) (hn : left < (n : Int)) (hm : (n : Int) ≤ 9223372036854775807) :
    Calls Try.prog 7 #[.slice A n c, .int .i64 left] w fun e w' => e = .returned (.int .i64 (-1)) ∧ w = w' := by
  go_enter Try.func7, Try.ntmps7
  go_wp2
  go_returns
  exact ⟨rfl, rfl⟩
theorem mark_int (xs : List Int) (k : Int) (i : Nat) (h : i < xs.length) : (marks k i ++ xs.drop i).set i (k + i) = marks k (i + 1) ++ xs.drop (i + 1) := by
  apply List.ext_getElem?
  intro j
  simp only [marks, List.getElem?_set, List.getElem?_map, List.length_map, List.length_append, List.length_range, List.length_drop, List.getElem?_append, List.getElem?_drop, List.getElem?_range]
  by_cases hj : i = j
  · subst hj
    simp [h]
    omega
  · rw [if_neg hj]
    by_cases h1 : j < i
    · simp [h1, show j < i + 1 from by omega]
    · have h2 : ¬ j < i + 1 := by omega
      simp only [h1, h2, if_false]
      rw [show i + (j - i) = i + 1 + (j - (i + 1)) from by omega]
theorem mark4 (xs : List Int) (k : Int) (i : Nat) (h : i + 3 < xs.length) : ((((marks k i ++ xs.drop i).set i (k + i)).set (i + 1) (k + ((i + 1 : Nat) : Int))).set (i + 2) (k + ((i + 2 : Nat) : Int))).set (i + 3) (k + ((i + 3 : Nat) : Int)) = marks k (i + 4) ++ xs.drop (i + 4) := by
  rw [mark_int xs k i (by omega), mark_int xs k (i + 1) (by omega), mark_int xs k (i + 2) (by omega), mark_int xs k (i + 3) (by omega)]
set_option maxHeartbeats 2000000 in
theorem markRowOpS_some (g c lo n : Nat) (cs : List Int) (k : Int) (w : World) (h : OwnX w lo (.slice (some ⟨g, 0, none⟩) n c) n cs) (hn : n ≤ 1048576) (hk : 0 ≤ k) (hk' : k ≤ 9000000) :
    Calls Try.prog 12 #[.slice (some ⟨g, 0, none⟩) n c, .int .i64 k] w fun e w' => e = .returned (.int .i64 (k + ((n * 4 : Nat) : Int))) ∧ OwnX w' lo (.slice (some ⟨g, 0, none⟩) n c) n (marks k (n * 4)) ∧ w.grownBy w' (some g) := by
  have HH := hide h
  have HLEN := hide h.1
  clear h
  go_enter Try.func12, Try.ntmps12
  go_wp2
  go_loopw [1, 5] (fun kk i wr => ∃ j : Nat, j ≤ n ∧ i = .int .i64 j ∧ kk = .int .i64 (k + ((j * 4 : Nat) : Int)) ∧ OwnX wr lo (.slice (some ⟨g, 0, none⟩) n c) n (marks k (j * 4) ++ cs.drop (j * 4)) ∧ w.grownBy wr (some g)) (fun _ i _ => n - (intOf i).toNat)
  case atStart => exact ⟨0, Nat.zero_le _, rfl, by simp, by simpa [marks] using HH.out, World.grownBy.refl _ _⟩
  case round =>
    obtain ⟨j, hj, rfl, rfl, hown, hG⟩ := hrel
    by_cases hlt : j < n
    · have HO := hide hown
      have q0 := HO.out.cell (j * 4) (by omega)
      have q1 := HO.out.cell (j * 4 + 1) (by omega)
      have q2 := HO.out.cell (j * 4 + 2) (by omega)
      have q3 := HO.out.cell (j * 4 + 3) (by omega)
      have f0 := HO.out.fz (j * 4)
      have f1 := HO.out.fz (j * 4 + 1)
      have f2 := HO.out.fz (j * 4 + 2)
      have f3 := HO.out.fz (j * 4 + 3)
      have hm := mark4 cs k (j * 4) (by have := HLEN.out; omega)
      have HM := hide hm
      obtain ⟨K, hK⟩ : ∃ K : Int, k + ((j * 4 : Nat) : Int) = K := ⟨_, rfl⟩
      have HK := hide hK
      have hK0 : 0 ≤ K ∧ K ≤ 14000000 := by omega
      rw [hK]
      clear hown hm hK
      have h4 := HO.out.set4 (j * 4) K (K + 1) (K + 1 + 1) (K + 1 + 1 + 1)
      have e1 : K + 1 = k + ((j * 4 + 1 : Nat) : Int) := by have := HK.out; push_cast; push_cast at this; omega
      have e2 : K + 1 + 1 = k + ((j * 4 + 2 : Nat) : Int) := by have := HK.out; push_cast; push_cast at this; omega
      have e3 : K + 1 + 1 + 1 = k + ((j * 4 + 3 : Nat) : Int) := by have := HK.out; push_cast; push_cast at this; omega
      have hl : ((((marks k (j * 4) ++ cs.drop (j * 4)).set (j * 4) K).set (j * 4 + 1) (K + 1)).set (j * 4 + 2) (K + 1 + 1)).set (j * 4 + 3) (K + 1 + 1 + 1) = marks k (j * 4 + 4) ++ cs.drop (j * 4 + 4) := by
        rw [e3, e2, e1, ← HK.out]; exact HM.out
      rw [hl] at h4
      have H4 := hide h4
      clear h4 hl e1 e2 e3
      go_wp2
      go_roundw
      case rel => exact ⟨j + 1, by omega, by go_num, by have := HK.out; congr 1; push_cast; push_cast at this; omega, by rw [show (j + 1) * 4 = j * 4 + 4 by omega]; exact H4.out.1, grownBy_trans hG H4.out.2⟩
      case measure => simp [intOf]; omega
    · have hkk : j = n := by omega
      subst hkk
      have HO : Hid (OwnX wr lo (.slice (some ⟨g, 0, none⟩) j c) j (marks k (j * 4))) := by
        have := hown
        rw [← HLEN.out, List.drop_length, List.append_nil, HLEN.out] at this
        exact this
      have d1 : ¬ ((j : Int) < (j : Int)) := by omega
      clear hown
      go_wp2
      go_ret
      exact ⟨rfl, HO.out, hG⟩
theorem markRowOpS_nil (k : Int) (w : World) :
    Calls Try.prog 12 #[.slice none 0 0, .int .i64 k] w fun e w' => e = .returned (.int .i64 k) ∧ w = w' := by
  go_enter Try.func12, Try.ntmps12
  go_wp2
  refine wp_loop_rounds 1 ?_
  rw [rounds_succ]
  go_wp2
  go_ret
  exact ⟨rfl, rfl⟩
theorem markRowOpS (s : Value) (lo n : Nat) (cs : List Int) (k : Int) (w : World) (h : OwnX w lo s n cs) (hn : n ≤ 1048576) (hk : 0 ≤ k) (hk' : k ≤ 9000000) :
    Calls Try.prog 12 #[s, .int .i64 k] w fun e w' => e = .returned (.int .i64 (k + ((n * 4 : Nat) : Int))) ∧ OwnX w' lo s n (marks k (n * 4)) ∧ w.grownBy w' s.ownBlock := by
  rcases OwnX.form h with ⟨rfl, rfl⟩ | ⟨g, c, rfl, _, _⟩
  · refine (markRowOpS_nil k w).mono ?_
    rintro e w' ⟨rfl, rfl⟩
    have : cs = [] := List.eq_nil_of_length_eq_zero (by rw [h.1])
    subst this
    exact ⟨by simp, by simpa [marks] using h, World.grownBy.refl _ _⟩
  · exact markRowOpS_some g c lo n cs k w h hn hk hk'
set_option maxHeartbeats 2000000 in
theorem heldRowOpS (A : Option Addr) (c n : Nat) (k : Int) (w : World) (h : SlX w A n (marks k (n * 4))) (hn : n ≤ 1048576) (hk : 0 ≤ k) (hk' : k ≤ 9000000) :
    Calls Try.prog 13 #[.slice A n c, .int .i64 k] w fun e w' => e = .returned (.int .i64 (k + ((n * 4 : Nat) : Int))) ∧ w = w' := by
  have HH := hide h; clear h
  go_enter Try.func13, Try.ntmps13
  go_wp2
  go_loop [1, 5] (fun kk i => ∃ j : Nat, j ≤ n ∧ i = .int .i64 j ∧ kk = .int .i64 (k + ((j * 4 : Nat) : Int))) (fun _ i => n - (intOf i).toNat)
  case atStart => exact ⟨0, Nat.zero_le _, rfl, by simp⟩
  case round =>
    obtain ⟨j, hj, rfl, rfl⟩ := hrel
    by_cases hlt : j < n
    · obtain ⟨g, off, rfl, c0, c1, c2, c3⟩ := HH.out.at4 hlt
      rw [marks_getD k (n * 4) _ (by omega)] at c0 c1 c2 c3
      obtain ⟨K, hK⟩ : ∃ K : Int, k + ((j * 4 : Nat) : Int) = K := ⟨_, rfl⟩
      have HK := hide hK
      have hK0 : 0 ≤ K ∧ K ≤ 14000000 := by omega
      have e1 : k + ((j * 4 + 1 : Nat) : Int) = K + 1 := by rw [← hK]; push_cast; omega
      have e2 : k + ((j * 4 + 2 : Nat) : Int) = K + 1 + 1 := by rw [← hK]; push_cast; omega
      have e3 : k + ((j * 4 + 3 : Nat) : Int) = K + 1 + 1 + 1 := by rw [← hK]; push_cast; omega
      rw [hK] at c0
      rw [e1] at c1
      rw [e2] at c2
      rw [e3] at c3
      rw [hK]
      clear hK e1 e2 e3
      have g0 : (K != K) = false := by simp
      have g1 : (K + 1 != K + 1) = false := by simp
      have g2 : (K + 1 + 1 != K + 1 + 1) = false := by simp
      have g3 : (K + 1 + 1 + 1 != K + 1 + 1 + 1) = false := by simp
      go_wp2
      go_round
      case rel => exact ⟨j + 1, by omega, by go_num, by have := HK.out; congr 1; push_cast; push_cast at this; omega⟩
      case measure => simp [intOf]; omega
    · have hkk : j = n := by omega
      subst hkk
      have d1 : ¬ ((j : Int) < (j : Int)) := by omega
      go_wp2
      go_ret
      exact ⟨rfl, rfl⟩
theorem heldRowOpS_own (s : Value) (lo : Nat) (k : Int) (n : Nat) (w : World) (h : OwnX w lo s n (marks k (n * 4))) (hn : n ≤ 1048576) (hk : 0 ≤ k) (hk' : k ≤ 9000000) :
    Calls Try.prog 13 #[s, .int .i64 k] w fun e w' => e = .returned (.int .i64 (k + ((n * 4 : Nat) : Int))) ∧ w = w' := by
  obtain ⟨A, c, rfl, hA⟩ := OwnX.sl h
  exact heldRowOpS A c n k w hA hn hk hk'
end Go.Proofs.Ythbmmoajfghjbaa
