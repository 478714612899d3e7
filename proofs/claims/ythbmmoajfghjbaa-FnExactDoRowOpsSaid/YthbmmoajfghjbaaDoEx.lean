/- The reference's row operation in place, to the number, and its DoRowOp. -/
import Derived.Test.YthbmmoajfghjbaaMulZ
import Derived.Test.YthbmmoajfghjbaaMatL
import Derived.Test.YthbmmoajfghjbaaDoOp
import Derived.StillTailTactics
namespace Go.Proofs.Ythbmmoajfghjbaa
open Go.RowKit
set_option linter.unusedSimpArgs false
set_option linter.unusedVariables false

/-- What the cell of row i in column q becomes. -/
def spV (C kind i j : Nat) (t : Int) (xs : List Int) (q : Nat) : Int := if kind = 1 then mulZ (xs.getD (i * C + q) 0) (-1) else addZ (xs.getD (i * C + q) 0) (mulZ (xs.getD (j * C + q) 0) t)
def spTo (C kind i j : Nat) (t : Int) (xs : List Int) (k : Nat) : Nat → Int := fun p => if p / C = i ∧ p % C < k then spV C kind i j t xs (p % C) else xs.getD p 0
def spL (R C kind i j : Nat) (t : Int) (xs : List Int) : List Int := tab (R * C) (spTo C kind i j t xs C)
theorem spTo_start {R C kind i j : Nat} {t : Int} {xs : List Int} (h : xs.length = R * C) : xs = tab (R * C) (spTo C kind i j t xs 0) := by
  rw [show tab (R * C) (spTo C kind i j t xs 0) = tab xs.length (fun p => xs.getD p 0) from by rw [h]; exact tab_congr fun p _ => by simp [spTo], tab_self]
theorem spTo_at {C kind i j k a : Nat} {t : Int} {xs : List Int} (hk : k < C) : spTo C kind i j t xs k (a * C + k) = xs.getD (a * C + k) 0 := by
  simp only [spTo, ix_mod hk]
  rw [if_neg (by omega)]
theorem spTo_step {R C kind i j k : Nat} {t v : Int} {xs : List Int} (_hi : i < R) (hk : k < C) (hv : v = spV C kind i j t xs k) :
    (tab (R * C) (spTo C kind i j t xs k)).set (i * C + k) v = tab (R * C) (spTo C kind i j t xs (k + 1)) := by
  refine tab_set (fun _ => ?_) (fun p hp hne => ?_)
  · simp only [spTo, ix_mod hk, ix_div hk]
    rw [if_pos ⟨trivial, by omega⟩, hv]
  · have h := ix_of hp
    simp only [spTo]
    by_cases h1 : p / C = i ∧ p % C < k
    · rw [if_pos h1, if_pos ⟨h1.1, by omega⟩]
    · rw [if_neg h1, if_neg]
      rintro ⟨e, h2⟩
      have h3 : p % C = k := by
        by_cases h4 : p % C < k
        · exact absurd ⟨e, h4⟩ h1
        · omega
      exact hne (by rw [← h.2.2, e, h3])
theorem mulZ_num {a b : Int} (ha : isNum a = true) (hb : isNum b = true) : mulZ a b = fitN (a * b) := by
  have h1 := num_ne ha
  have h2 := num_ne hb
  have h3 := mul_in (isNum_t ha) (isNum_t hb)
  rw [mulZ, if_neg (by simp [h1, h2]), IntWalk.wrap64_in _ (by omega)]
theorem spV_one {C i j q : Nat} {t : Int} {xs : List Int} (hu : isNum (xs.getD (i * C + q) 0) = true) : spV C 1 i j t xs q = - xs.getD (i * C + q) 0 := by
  have h := isNum_t hu
  rw [spV, if_pos rfl, mulZ_num hu (by decide), fitN, show xs.getD (i * C + q) 0 * -1 = - xs.getD (i * C + q) 0 from by omega, if_pos (isNum_mk (by omega))]
theorem spV_two {C i j q : Nat} {t : Int} {xs : List Int} (hu : isNum (xs.getD (i * C + q) 0) = true) (hv : isNum (xs.getD (j * C + q) 0) = true) (ht : isNum t = true) :
    spV C 2 i j t xs q = if okAt C i j t xs q = true then xs.getD (i * C + q) 0 + xs.getD (j * C + q) 0 * t else badN := by
  have hun := num_ne hu
  have hub := isNum_t hu
  rw [spV, if_neg (by decide), mulZ_num hv ht]
  generalize hm : xs.getD (j * C + q) 0 * t = m
  have ek : okAt C i j t xs q = (isNum m && isNum (xs.getD (i * C + q) 0 + m)) := by rw [okAt, hm]
  rw [ek]
  clear ek hm
  generalize xs.getD (i * C + q) 0 = u at *
  simp only [Bool.and_eq_true]
  by_cases h1 : isNum m = true
  · have hmb := isNum_t h1
    rw [show fitN m = m from by rw [fitN, if_pos h1], addZ, if_neg (by simp [hun, num_ne h1]), IntWalk.wrap64_in _ (by omega), fitN]
    by_cases h2 : isNum (u + m) = true
    · rw [if_pos h2, if_pos ⟨h1, h2⟩]
    · rw [if_neg h2, if_neg (fun x => h2 x.2)]
  · rw [show fitN m = badN from by rw [fitN, if_neg h1], addZ, if_pos (.inr rfl), if_neg (fun x => h1 x.1)]
theorem opNew_one (i j : Nat) (t : Int) (M : Det.Mat) (a b : Nat) : opNew 1 i j t M a b = if a = i then - M i b else M a b := by simp [opNew]
theorem opNew_two (i j : Nat) (t : Int) (M : Det.Mat) (a b : Nat) : opNew 2 i j t M a b = if a = i then M i b + M j b * t else M a b := by simp [opNew]
/-- What the operation leaves. -/
def dL (R C kind i j : Nat) (t : Int) (xs : List Int) : List Int := if kind = 0 then opL R C 0 i j 0 xs else spL R C kind i j t xs
theorem dL_length {R C kind i j : Nat} {t : Int} {xs : List Int} : (dL R C kind i j t xs).length = R * C := by
  unfold dL
  split
  · rw [opL, ofM_length]
  · rw [spL, tab_length]
theorem cell_num {R C : Nat} {xs : List Int} (h : isMat R C xs = true) {a b : Nat} (ha : a < R) (hb : b < C) : isNum (xs.getD (a * C + b) 0) = true := isMat_cells h a b ha hb
theorem dL_ok {R C k i j : Nat} {t : Int} {xs : List Int} (hm : isMat R C xs = true) (ho : isRowOp k i j t R = true) (hg : opGo k C i j t xs = true) :
    dL R C k i j t xs = opL R C k i j t xs ∧ isMat R C (opL R C k i j t xs) = true := by
  obtain ⟨hi, hj, ht, hk⟩ := isRowOp_t ho
  have hb := (isMat_t hm)
  have hR : R ≤ 24 := by omega
  have hC : C ≤ 24 := by omega
  have hc := isMat_cells hm
  rcases hk with ⟨rfl, hij, rfl⟩ | ⟨rfl, rfl, rfl⟩ | ⟨rfl, hij⟩
  · refine ⟨by rw [dL, if_pos rfl], isMat_ofM.2 ⟨hR, hC, fun a b ha hb => ?_⟩⟩
    simp only [opNew, if_true]
    split
    · exact hc _ _ hj hb
    · split
      · exact hc _ _ hi hb
      · exact hc _ _ ha hb
  · refine ⟨?_, isMat_ofM.2 ⟨hR, hC, fun a b ha hb => ?_⟩⟩
    · rw [dL, if_neg (by decide), spL, opL, ofM]
      refine tab_congr fun p hp => ?_
      have h := ix_of hp
      rw [opNew_one]
      simp only [spTo]
      by_cases e : p / C = i
      · rw [if_pos ⟨e, h.2.1⟩, if_pos e, spV_one (cell_num hm hi h.2.1)]; rfl
      · rw [if_neg (fun x => e x.1), if_neg e, toM, h.2.2]
    · rw [opNew_one]
      split
      · have := isNum_t (hc i b hi hb)
        exact isNum_mk (by omega)
      · exact hc _ _ ha hb
  · have hg' : ∀ q, q < C → okAt C i j t xs q = true := fun q hq => by
      simp only [opGo, ne_eq, not_true, decide_false, Bool.false_or, opOk, List.all_eq_true] at hg
      exact hg q (List.mem_range.2 hq)
    refine ⟨?_, isMat_ofM.2 ⟨hR, hC, fun a b ha hb => ?_⟩⟩
    · rw [dL, if_neg (by decide), spL, opL, ofM]
      refine tab_congr fun p hp => ?_
      have h := ix_of hp
      rw [opNew_two]
      simp only [spTo]
      by_cases e : p / C = i
      · rw [if_pos ⟨e, h.2.1⟩, if_pos e, spV_two (cell_num hm hi h.2.1) (cell_num hm hj h.2.1) (isNum_mk ht), if_pos (hg' _ h.2.1)]; rfl
      · rw [if_neg (fun x => e x.1), if_neg e, toM, h.2.2]
    · rw [opNew_two]
      split
      · have := hg' b hb
        simp only [okAt, Bool.and_eq_true] at this
        exact this.2
      · exact hc _ _ ha hb
theorem dL_no {R C k i j : Nat} {t : Int} {xs : List Int} (hm : isMat R C xs = true) (ho : isRowOp k i j t R = true) (hg : opGo k C i j t xs = false) : isMat R C (dL R C k i j t xs) = false := by
  obtain ⟨hi, hj, ht, hk⟩ := isRowOp_t ho
  simp only [opGo, Bool.or_eq_false_iff, decide_eq_false_iff_not, Decidable.not_not] at hg
  obtain ⟨rfl, hg⟩ := hg
  rcases Bool.eq_false_or_eq_true (isMat R C (dL R C 2 i j t xs)) with h | h
  · exfalso
    have : opOk C i j t xs = true := by
      simp only [opOk, List.all_eq_true]
      intro q hq
      have hq := List.mem_range.1 hq
      rcases Bool.eq_false_or_eq_true (okAt C i j t xs q) with e | e
      · exact e
      · exfalso
        have h1 := cell_num h hi hq
        rw [dL, if_neg (by decide), spL, tab_getD _ (ix_lt hi hq), spTo, ix_div hq, ix_mod hq, if_pos ⟨rfl, hq⟩, spV_two (cell_num hm hi hq) (cell_num hm hj hq) (isNum_mk ht), if_neg (by simp [e]), badN_no] at h1
        cases h1
    rw [this] at hg; cases hg
  · exact h
set_option maxRecDepth 100000 in
set_option maxHeartbeats 8000000 in
theorem specDoSp (R C i j : Nat) (kn : Nat) (kind t : Int) (hkn : kind = kn) (g cap lo N : Nat) (xs : List Int) (w : World) (hO : Own w lo (.slice (some ⟨g, 0, none⟩) N cap) xs) (hl : xs.length = N) (hN : R * C = N) (hk12 : kn = 1 ∨ kn = 2) (HR : R ≤ 24) (HC : C ≤ 24) (hi : i < R) (hj : j < R) :
    Calls Try.prog 33 #[mv R C (.slice (some ⟨g, 0, none⟩) N cap), opv kind i j t] w fun e w' => e = .returned (.tuple #[]) ∧ Own w' lo (.slice (some ⟨g, 0, none⟩) N cap) (spL R C kn i j t xs) ∧ w.grownBy w' (some g) := by
  have HST : Hid (∀ k v, k < C → v = spV C kn i j t xs k → (tab N (spTo C kn i j t xs k)).set (i * C + k) v = tab N (spTo C kn i j t xs (k + 1))) := fun k v hk hv => by rw [← hN]; exact spTo_step hi hk hv
  have HAT : Hid (∀ a k, k < C → spTo C kn i j t xs k (a * C + k) = xs.getD (a * C + k) 0) := fun a k hk => spTo_at hk
  have HEN : Hid (spL R C kn i j t xs = tab N (spTo C kn i j t xs C)) := by rw [Hid, ← hN]; rfl
  rw [HEN.out]
  rw [show xs = tab N (spTo C kn i j t xs 0) from by rw [← hN]; exact spTo_start (by rw [hl, hN])] at hO
  have HKN := hide (And.intro hkn hk12)
  clear hkn hk12
  have hn : N ≤ 576 := by rw [← hN]; exact Nat.mul_le_mul HR HC
  have HI : Hid (∀ k, k < C → i * C + k < N) := fun k hk => by rw [← hN]; exact ix_lt hi hk
  have HJ : Hid (∀ k, k < C → j * C + k < N) := fun k hk => by rw [← hN]; exact ix_lt hj hk
  have hgl := (Own.lt hO g rfl).2
  have HO := hide (Own.alloc (Own.alloc hO (.cells #[.int .i64 R, .int .i64 C, .slice (some ⟨g, 0, none⟩) N cap] 36)) (.cells #[.int .i64 kind, .int .i64 i, .int .i64 j, .int .i64 t] 40))
  have HMB : Hid (Box3 ((w.alloc (.cells #[.int .i64 R, .int .i64 C, .slice (some ⟨g, 0, none⟩) N cap] 36)).alloc (.cells #[.int .i64 kind, .int .i64 i, .int .i64 j, .int .i64 t] 40)) w.heap.size (.int .i64 R) (.int .i64 C) (.slice (some ⟨g, 0, none⟩) N cap)) := (Box3.new _ _ _ rfl).alloc _
  have HOB : Hid (OpBox ((w.alloc (.cells #[.int .i64 R, .int .i64 C, .slice (some ⟨g, 0, none⟩) N cap] 36)).alloc (.cells #[.int .i64 kind, .int .i64 i, .int .i64 j, .int .i64 t] 40)) (w.heap.size + 1) kind i j t) := OpBox.new _ _ _ (by simp)
  have HGR : Hid (w.grownBy ((w.alloc (.cells #[.int .i64 R, .int .i64 C, .slice (some ⟨g, 0, none⟩) N cap] 36)).alloc (.cells #[.int .i64 kind, .int .i64 i, .int .i64 j, .int .i64 t] 40)) (some g)) := grownBy_trans (World.grownBy_alloc w _ _) (World.grownBy_alloc _ _ _)
  clear hO hN hl
  go_enter Try.func33, Try.ntmps33
  go_wp2_with fail
  go_loopw [4] (fun kv wr => ∃ (k : Nat), k ≤ C ∧ kv = .int .i64 k ∧ Own wr lo (.slice (some ⟨g, 0, none⟩) N cap) (tab N (spTo C kn i j t xs k)) ∧ Box3 wr w.heap.size (.int .i64 R) (.int .i64 C) (.slice (some ⟨g, 0, none⟩) N cap) ∧ OpBox wr (w.heap.size + 1) kind i j t ∧ w.grownBy wr (some g)) (fun kv _ => C - (intOf kv).toNat)
  case atStart => exact ⟨0, Nat.zero_le _, rfl, HO.out, HMB.out, HOB.out, HGR.out⟩
  case round =>
    clear HO HMB HOB HGR
    obtain ⟨k, hk, rfl, ho, bx, ob, hg⟩ := hrel
    obtain ⟨wo, rfl⟩ : ∃ wo : World, wo = wr := ⟨_, rfl⟩
    have HO := hide ho
    have BX := hide bx
    have OB := hide ob
    have HGR := hide hg
    obtain ⟨⟨a0, a1, a2⟩, _⟩ := bx
    obtain ⟨b0, b1, b2, b3⟩ := ob
    clear ho hg
    by_cases hlt : k < C
    · have h1 := HI.out k hlt
      have h2 := HJ.out k hlt
      have c1 := own_cell HO.out h1
      have c2 := own_cell HO.out h2
      rw [HAT.out i k hlt] at c1
      rw [HAT.out j k hlt] at c2
      have z1 := own_free HO.out (i * C + k)
      have z2 := own_free HO.out (j * C + k)
      obtain ⟨u, hu⟩ : ∃ u, xs.getD (i * C + k) 0 = u := ⟨_, rfl⟩
      obtain ⟨v, hv⟩ : ∃ v, xs.getD (j * C + k) 0 = v := ⟨_, rfl⟩
      rw [hu] at c1
      rw [hv] at c2
      have hv1 : kn = 1 → mulZ u (-1) = spV C kn i j t xs k := fun e => by rw [spV, if_pos e, hu]
      have hv2 : kn ≠ 1 → addZ u (mulZ v t) = spV C kn i j t xs k := fun e => by rw [spV, if_neg e, hu, hv]
      have ST1 : Hid (kn = 1 → (tab N (spTo C kn i j t xs k)).set (i * C + k) (mulZ u (-1)) = tab N (spTo C kn i j t xs (k + 1))) := fun e => HST.out k _ hlt (hv1 e)
      have ST2 : Hid (kn ≠ 1 → (tab N (spTo C kn i j t xs k)).set (i * C + k) (addZ u (mulZ v t)) = tab N (spTo C kn i j t xs (k + 1))) := fun e => HST.out k _ hlt (hv2 e)
      clear hv1 hv2
      have e1 : (i : Int) * C + k = ((i * C + k : Nat) : Int) := by push_cast; rfl
      have e2 : (j : Int) * C + k = ((j * C + k : Nat) : Int) := by push_cast; rfl
      have i0 : 0 ≤ (i : Int) * C := Int.mul_nonneg (by omega) (by omega)
      have j0 : 0 ≤ (j : Int) * C := Int.mul_nonneg (by omega) (by omega)
      obtain ⟨d1, hd1⟩ : ∃ d, i * C + k = d := ⟨_, rfl⟩
      obtain ⟨d2, hd2⟩ : ∃ d, j * C + k = d := ⟨_, rfl⟩
      have ST1' := ST1.out
      have ST2' := ST2.out
      rw [hd1] at ST1' ST2'
      clear ST1 ST2
      have ST1 := hide ST1'
      have ST2 := hide ST2'
      clear ST1' ST2'
      rw [hd1] at h1 c1 z1 e1
      rw [hd2] at h2 c2 z2 e2
      have q1 : IntKind.i64.wrap ((i : Int) * C) = (i : Int) * C := IntWalk.i64_in _ (by omega)
      have q2 : IntKind.i64.wrap ((j : Int) * C) = (j : Int) * C := IntWalk.i64_in _ (by omega)
      have q3 : IntKind.i64.wrap (d1 : Int) = (d1 : Int) := IntWalk.i64_in _ (by omega)
      have q4 : IntKind.i64.wrap (d2 : Int) = (d2 : Int) := IntWalk.i64_in _ (by omega)
      have y1 : (0 : Int) ≤ (d1 : Int) := by omega
      have y2 : (0 : Int) ≤ (d2 : Int) := by omega
      have y3 : (d1 : Int) < (N : Int) := by omega
      have y4 : (d2 : Int) < (N : Int) := by omega
      have g1 : w.heap.size ≠ g := by omega
      have g2 : w.heap.size + 1 ≠ g := by omega
      clear hu hv hd1 hd2 i0 j0
      have k0 : ¬ kind = 0 := by have := HKN.out; omega
      have hkn := HKN.out
      have dk : (kind == 0) = false := by simpa using k0
      by_cases k1 : kind = 1
      · have dk1 : (kind == 1) = true := by simpa using k1
        have S1 := hide (own_store HO.out (ST1.out (by omega)))
        clear k0 k1 hkn
        go_wp2_with fail
        go_still_tail 12, (by kernel_rfl)
        still_call (specMulAny _ _ _)
        repeat still_step
        refine wpStill_nil ?_
        go_wp2_with fail
        go_roundw
        case rel => exact ⟨k + 1, by omega, by go_num, S1.out.1, Box3.drew (BX.out.grown S1.out.2 (by simpa using g1)), opBox_drew (OB.out.grown S1.out.2 (by simpa using g2)), drew_grown (grownBy_trans HGR.out S1.out.2)⟩
        case measure => simp [intOf]; omega
      · have dk1 : (kind == 1) = false := by simpa using k1
        have S1 := hide (own_store HO.out (ST2.out (by omega)))
        clear k0 k1 hkn
        go_wp2_with fail
        go_still_tail 16, (by kernel_rfl)
        still_call (specMulAny _ _ _)
        still_call (specAddAny _ _ _)
        repeat still_step
        refine wpStill_nil ?_
        go_wp2_with fail
        go_roundw
        case rel => exact ⟨k + 1, by omega, by go_num, S1.out.1, Box3.drew (BX.out.grown S1.out.2 (by simpa using g1)), opBox_drew (OB.out.grown S1.out.2 (by simpa using g2)), drew_grown (grownBy_trans HGR.out S1.out.2)⟩
        case measure => simp [intOf]; omega
    · have hkk : k = C := by omega
      subst hkk
      go_wp2_with fail
      go_returns
      exact ⟨rfl, HO.out, HGR.out⟩

theorem specDoEx (R C k i j : Nat) (t : Int) (g cap lo N : Nat) (xs : List Int) (w : World) (hO : Own w lo (.slice (some ⟨g, 0, none⟩) N cap) xs) (hl : xs.length = N) (hN : R * C = N) (HR : R ≤ 24) (HC : C ≤ 24) (ho : isRowOp k i j t R = true) :
    Calls Try.prog 33 #[mv R C (.slice (some ⟨g, 0, none⟩) N cap), opv k i j t] w fun e w' => e = .returned (.tuple #[]) ∧ Own w' lo (.slice (some ⟨g, 0, none⟩) N cap) (dL R C k i j t xs) ∧ w.grownBy w' (some g) := by
  obtain ⟨hi, hj, ht, hk⟩ := isRowOp_t ho
  rcases hk with ⟨rfl, hij, rfl⟩ | ⟨rfl, rfl, rfl⟩ | ⟨rfl, hij⟩
  · subst hN
    rw [dL, if_pos rfl]
    exact specDoSwap R C i j g cap lo xs w hO hl HR HC hi hj hij
  · rw [dL, if_neg (by decide)]
    exact specDoSp R C i i 1 1 0 rfl g cap lo N xs w hO hl hN (.inl rfl) HR HC hi hj
  · rw [dL, if_neg (by decide)]
    exact specDoSp R C i j 2 2 t rfl g cap lo N xs w hO hl hN (.inr rfl) HR HC hi hj
end Go.Proofs.Ythbmmoajfghjbaa
