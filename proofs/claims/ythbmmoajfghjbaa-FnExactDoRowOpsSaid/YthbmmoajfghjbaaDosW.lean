/- DoRowOps: what it makes, and the program's walk. -/
import Derived.Test.YthbmmoajfghjbaaUndoW
import Derived.Test.YthbmmoajfghjbaaDoOp
import Derived.Test.YthbmmoajfghjbaaCopyW
import Derived.Test.YthbmmoajfghjbaaRowLib
namespace Go.Proofs.Ythbmmoajfghjbaa
open Go.RowKit
set_option linter.unusedSimpArgs false
set_option linter.unusedVariables false
/-- The matrix behind the first m operations, if they can be done. -/
def doN (r c : Int) (xs cs : List Int) : Nat → Option (List Int)
  | 0 => some xs
  | m + 1 => match doN r c xs cs m with
    | some ys => if (opRes r c ys (cs.getD (m * 4) 0) (cs.getD (m * 4 + 1) 0) (cs.getD (m * 4 + 2) 0) (cs.getD (m * 4 + 3) 0)).ok = true then some (opRes r c ys (cs.getD (m * 4) 0) (cs.getD (m * 4 + 1) 0) (cs.getD (m * 4 + 2) 0) (cs.getD (m * 4 + 3) 0)).L else none
    | none => none
theorem doN_some {r c : Int} {xs cs ys : List Int} {m : Nat} (h : doN r c xs cs m = some ys) : doN r c xs cs (m + 1) = if (opRes r c ys (cs.getD (m * 4) 0) (cs.getD (m * 4 + 1) 0) (cs.getD (m * 4 + 2) 0) (cs.getD (m * 4 + 3) 0)).ok = true then some (opRes r c ys (cs.getD (m * 4) 0) (cs.getD (m * 4 + 1) 0) (cs.getD (m * 4 + 2) 0) (cs.getD (m * 4 + 3) 0)).L else none := by
  rw [doN, h]
theorem doN_none {r c : Int} {xs cs : List Int} {m : Nat} (h : doN r c xs cs m = none) : ∀ n, m ≤ n → doN r c xs cs n = none
  | 0, hn => by rw [show m = 0 by omega] at h; exact h
  | n + 1, hn => by
    by_cases hm : m = n + 1
    · rw [← hm]; exact h
    · rw [doN, doN_none h n (by omega)]
theorem opRes_ok {r c : Int} {xs : List Int} {k i j t : Int} (h : (opRes r c xs k i j t).ok = true) : (opRes r c xs k i j t).R = r ∧ (opRes r c xs k i j t).C = c := by
  unfold opRes at h ⊢
  split
  · exact ⟨rfl, rfl⟩
  · rename_i h2; rw [if_neg h2] at h; cases h
def doM (r c : Int) : Option (List Int) → MRes
  | some ys => ⟨r, c, ys, true⟩
  | none => .no
def doRes (r c : Int) (xs : List Int) (n : Nat) (cs : List Int) : MRes :=
  if isMat r c xs = true ∧ n ≤ 40 then doM r c (doN r c xs cs n) else .no
theorem doN_len {r c : Int} {xs cs : List Int} (hx : xs.length ≤ 1048576) : ∀ (m : Nat) (ys : List Int), doN r c xs cs m = some ys → ys.length ≤ 1048576
  | 0, ys, h => by rw [doN] at h; injection h with h; subst h; exact hx
  | m + 1, ys, h => by
    cases hd : doN r c xs cs m with
    | none => rw [doN, hd] at h; cases h
    | some zs =>
      rw [doN_some hd] at h
      split at h
      · injection h with h; subst h; exact DoRowOp_len
      · cases h
theorem DoRowOps_len {r c : Int} {xs : List Int} {n : Nat} {cs : List Int} (hx : xs.length ≤ 1048576) : (doRes r c xs n cs).L.length ≤ 1048576 := by
  unfold doRes
  split
  · cases hd : doN r c xs cs n with
    | none => exact Nat.zero_le _
    | some ys => exact doN_len hx n ys hd
  · exact Nat.zero_le _
set_option maxRecDepth 100000 in
set_option maxHeartbeats 8000000 in
theorem implDoOps (r c : Int) (A B : Option Addr) (cap n d : Nat) (xs cs : List Int) (w : World) (hA : Sl w A xs.length cap xs) (hn : xs.length ≤ 1048576) (hX : SlX w B n cs) (hn' : n ≤ 1048576) :
    Calls Try.prog 25 #[mv r c (.slice A xs.length cap), .slice B n d] w (RetM w (doRes r c xs n cs)) := by
  have HA := hide hA
  have HX := hide hX
  clear hA hX
  obtain ⟨p, hp⟩ : ∃ p, doRes r c xs n cs = p := ⟨_, rfl⟩
  rw [hp]
  have HB0 : Hid (Below w.heap.size w ((w.alloc (.cells #[.int .i64 r, .int .i64 c, .slice A xs.length cap] 36)).alloc (.cells #[.int .i64 0, .int .i64 0, .slice none 0 0] 36))) := (by repeat' (first | exact Below.refl _ _ | (refine Below.alloc ?_ ?_ _) | (refine Below.setCell ?_ ?_ _) | (refine Below.drew ?_) | (refine below_drewN ?_ _) | (refine Below.trans ?_ (Below.mono (by assumption) ?_)) | omega | (simp only [World.size_alloc, World.size_setCell, World.size_drew, size_drewN]; omega)))
  have N0 := hide ((Box3.new (x := .int .i64 r) (y := .int .i64 c) (z := .slice A xs.length cap) w w.heap.size 36 rfl).alloc (.cells #[.int .i64 0, .int .i64 0, .slice none 0 0] 36))
  have R0 := hide (Box3.new (x := .int .i64 0) (y := .int .i64 0) (z := .slice none 0 0) (w.alloc (.cells #[.int .i64 r, .int .i64 c, .slice A xs.length cap] 36)) (w.heap.size + 1) 36 (by simp))
  have CM := hide fun (w' : World) (h : Sl w' A xs.length cap xs) => implIsMatrix r c A cap xs w' h.2.2.2.2 hn
  have CC := hide fun (w' : World) (h : Sl w' A xs.length cap xs) => implCopy r c A cap xs w' h hn
  rw [doRes] at hp
  have HPD := hide hp
  clear hp
  go_enter Try.func25, Try.ntmps25
  obtain ⟨⟨i0, i1, i2⟩, _⟩ := N0.out
  go_wp2_with fail
  refine (CM.out _ (HA.out.below HB0.out)).mono ?_; rintro e w1 ⟨rfl, hb⟩
  have N1 := hide (N0.out.call hb)
  have R1 := hide (R0.out.call hb)
  have HB1 := hide (kb_call HB0.out (by omega) hb)
  clear hb N0 R0 HB0 CM i0 i1 i2
  rcases Bool.eq_false_or_eq_true (isMat r c xs) with hbm | hbm
  · rw [hbm]
    by_cases h40 : n ≤ 40
    · have d40 : ¬ ((40 : Int) < (n : Int)) := by omega
      have HPE : Hid (p = doM r c (doN r c xs cs n)) := by rw [Hid, ← HPD.out, if_pos ⟨hbm, h40⟩]
      clear HPD hbm
      obtain ⟨⟨i0, i1, i2⟩, _⟩ := N1.out
      go_wp2_with fail
      refine (CC.out _ (HA.out.below HB1.out)).mono ?_; rintro e w2 ⟨s, rfl, ho, hb⟩
      obtain ⟨A2, z2, rfl, _⟩ := Own.sl ho
      have hlo := Own.lt ho
      have R2 := hide ((R1.out.call hb).alloc (.cells #[.int .i64 r, .int .i64 c, .slice A2 xs.length z2] 36))
      have O2 := hide (ho.alloc (.cells #[.int .i64 r, .int .i64 c, .slice A2 xs.length z2] 36))
      have M2 := hide (Box3.new (x := .int .i64 r) (y := .int .i64 c) (z := .slice A2 xs.length z2) w2 w2.heap.size 36 rfl)
      have HB2 := hide ((kb_call HB1.out (Nat.le_refl _) hb).alloc (by have := HB1.out.size; have := hb.size; omega) (.cells #[.int .i64 r, .int .i64 c, .slice A2 xs.length z2] 36))
      have hr1 := R1.out.lt
      have hz2 := hb.size
      clear ho hb N1 R1 HB1 CC i0 i1 i2
      go_wp2
      go_loopw [24] (fun iv wr => ∃ (m : Nat) (ys : List Int) (A3 : Option Addr) (n3 c3 : Nat), m ≤ n ∧ iv = .int .i64 m ∧ Hid (doN r c xs cs m = some ys) ∧ Hid (ys.length = n3) ∧ Own wr (w.heap.size + 2) (.slice A3 n3 c3) ys ∧ Hid ((Value.slice A3 n3 c3).ownBlock ≠ some w2.heap.size) ∧
          Box3 wr (w.heap.size + 1) (.int .i64 0) (.int .i64 0) (.slice none 0 0) ∧ Box3 wr w2.heap.size (.int .i64 r) (.int .i64 c) (.slice A3 n3 c3) ∧ Below w.heap.size w wr) (fun iv _ => n - (intOf iv).toNat)
      case atStart => exact ⟨0, xs, A2, xs.length, z2, Nat.zero_le _, rfl, rfl, rfl, O2.out.mono (by omega), (fun e => by have := (hlo _ e).2; omega), R2.out, M2.out, HB2.out⟩
      case round =>
        clear R2 O2 M2 HB2 hlo
        obtain ⟨m, ys, A3, n3, c3, hm, rfl, hdo, hyl, ho, hne, hbr, hbm, hB⟩ := hrel
        have NR := hide hbr
        have NM := hide hbm
        have HO := hide ho
        have HB := hide hB
        have hyn := hyl.out
        have hzr := hB.size
        have hmr := NM.out.lt
        clear hbr hbm ho
        by_cases hlt : m < n
        · have d1 : (m : Int) < (n : Int) := by omega
          have d0 : (0 : Int) ≤ (m : Int) := by omega
          obtain ⟨g, off, rfl, c0, c1, c2, c3'⟩ := HX.out.at4 hlt
          have h0 := kc_call c0 hB
          have h1 := kc_call c1 hB
          have h2 := kc_call c2 hB
          have h3 := kc_call c3' hB
          have hst := doN_some hdo.out
          have hml : ys.length ≤ 1048576 := doN_len hn m ys hdo.out
          obtain ⟨x0, e0⟩ : ∃ x, cs.getD (m * 4) 0 = x := ⟨_, rfl⟩
          obtain ⟨x1, e1⟩ : ∃ x, cs.getD (m * 4 + 1) 0 = x := ⟨_, rfl⟩
          obtain ⟨x2, e2⟩ : ∃ x, cs.getD (m * 4 + 2) 0 = x := ⟨_, rfl⟩
          obtain ⟨x3, e3⟩ : ∃ x, cs.getD (m * 4 + 3) 0 = x := ⟨_, rfl⟩
          rw [e0] at h0 hst
          rw [e1] at h1 hst
          rw [e2] at h2 hst
          rw [e3] at h3 hst
          have hok := fun h => opRes_ok (r := r) (c := c) (xs := ys) (k := x0) (i := x1) (j := x2) (t := x3) h
          have hLl := DoRowOp_len (r := r) (c := c) (xs := ys) (k := x0) (i := x1) (j := x2) (t := x3)
          have cd : ∀ w', Own w' (w.heap.size + 2) (.slice A3 n3 c3) ys → Calls Try.prog 18 #[mv r c (.slice A3 n3 c3), opv x0 x1 x2 x3] w' (RetM w' (opRes r c ys x0 x1 x2 x3)) := fun w' h => by
            rw [← hyn] at h ⊢
            exact implDoOp r c x0 x1 x2 x3 A3 c3 ys w' (Own.sl2 h) hml
          obtain ⟨q, hq⟩ : ∃ q, opRes r c ys x0 x1 x2 x3 = q := ⟨_, rfl⟩
          rw [hq] at hst hok hLl cd
          obtain ⟨R, C, L, K⟩ := q
          simp only at hst hok hLl
          have CD : Hid (∀ w', Own w' (w.heap.size + 2) (.slice A3 n3 c3) ys → Calls Try.prog 18 #[mv r c (.slice A3 n3 c3), opv x0 x1 x2 x3] w' (RetMat w' R C L K)) := cd
          have HST := hide hst
          have HOK := hide hok
          clear c0 c1 c2 c3' e0 e1 e2 e3 hq hst hok cd
          have NB := hide (NM.out.alloc (.cells #[.int .i64 x0, .int .i64 x1, .int .i64 x2, .int .i64 x3] 40))
          have NRB := hide (NR.out.alloc (.cells #[.int .i64 x0, .int .i64 x1, .int .i64 x2, .int .i64 x3] 40))
          have HBB := hide (HB.out.alloc hzr (.cells #[.int .i64 x0, .int .i64 x1, .int .i64 x2, .int .i64 x3] 40))
          obtain ⟨⟨y0, y1, y2⟩, _⟩ := NM.out
          go_wp2_with fail
          refine (CD.out _ (HO.out.alloc _)).mono ?_; rintro e w3 ⟨s3, rfl, ho, hb⟩
          obtain ⟨A4, z4, rfl, _⟩ := Own.sl ho
          have hlo := Own.lt ho
          have hz3 := hb.size
          simp only [World.size_alloc] at hz3 hlo
          have NM3 := hide (NB.out.call hb)
          have NR3 := hide (NRB.out.call hb)
          have HB3 := hide (kb_call HBB.out (Nat.le_refl _) hb)
          have O3 := hide ho
          clear ho hb NB NRB HBB y0 y1 y2 NM NR HB HO hB
          have hm3 := NM3.out.lt
          have hr3 := NR3.out.lt
          cases K
          · have hPZ : p = MRes.no := by
              have := HST.out
              rw [if_neg (by decide)] at this
              rw [HPE.out, doN_none this n (by omega), doM]
            obtain ⟨⟨y0, y1, y2⟩, f0, f1, f2⟩ := NM3.out
            have HPZ : Hid (p = MRes.no) := hPZ
            obtain ⟨⟨z0, z1, z2⟩, v0, v1, v2⟩ := NR3.out
            go_wp2_with fail
            obtain ⟨⟨m0, m1, m2⟩, _⟩ := (NR3.out.stored (.int .i64 0) (.int .i64 0) (.slice none 0 0)).alloc (.cells #[.int .i64 R, .int .i64 C, .slice A4 L.length z4] 36)
            exact bodyPost_ret (v := .tuple #[mv (0) (0) (.slice none 0 0), .bool false]) (by first | (simp [results, Try.results25, go_sem, m0, m1, m2]; done) | (simp [results, Try.results25, go_sem]; done)) rfl (by rw [HPZ.out]; exact ⟨_, rfl, Own.nil _ _, (((HB3.out.setCell (Nat.le_succ _) _).setCell (Nat.le_succ _) _).setCell (Nat.le_succ _) _).alloc (by have := HB3.out.size; simp; omega) _⟩)
          · have HST2 := hide (HST.out.trans (if_pos rfl))
            obtain ⟨rfl, rfl⟩ := HOK.out rfl
            clear HOK HST HPE
            obtain ⟨⟨y0, y1, y2⟩, f0, f1, f2⟩ := NM3.out
            go_wp2_with fail
            go_roundw
            case rel =>
              have hwz := HB3.out.size
              have hne4 : ∀ o, (Value.slice A4 L.length z4).ownBlock ≠ some (⟨w2.heap.size, o, none⟩ : Addr).block := fun o e => by have := (hlo _ e).1; dsimp only at this; omega
              refine ⟨m + 1, L, A4, L.length, z4, by omega, by go_num, HST2.out, rfl, ?_, (fun e => hne4 0 e), ?_, ?_, ?_⟩
              · exact Own.alloc (Own.mono (Own.set (Own.set (Own.set O3.out (hne4 0) _) (hne4 1) _) (hne4 2) _) (by rw [World.size_alloc]; omega)) _
              · exact Box3.alloc (Box3.set (Box3.set (Box3.set NR3.out (by dsimp only; omega) _) (by dsimp only; omega) _) (by dsimp only; omega) _) _
              · exact Box3.alloc (Box3.stored NM3.out _ _ _) _
              · exact (((HB3.out.setCell (by dsimp only; omega) _).setCell (by dsimp only; omega) _).setCell (by dsimp only; omega) _).alloc (by simp; omega) _
            case measure => simp [intOf] <;> omega
        · have hke : m = n := by omega
          have d1 : ¬ ((m : Int) < (n : Int)) := by omega
          have HPZ : Hid (p = ⟨r, c, ys, true⟩) := by
            have := hdo.out
            rw [hke] at this
            rw [Hid, HPE.out, this, doM]
          clear HPE hdo hke
          obtain ⟨⟨z0, z1, z2⟩, v0, v1, v2⟩ := NR.out
          obtain ⟨⟨x0, x1, x2⟩, _⟩ := NM.out
          go_wp2_with fail
          obtain ⟨⟨m0, m1, m2⟩, _⟩ := NR.out.stored (.int .i64 r) (.int .i64 c) (.slice A3 n3 c3)
          have HLT := Own.lt HO.out
          exact bodyPost_ret (v := .tuple #[mv (r) (c) (.slice A3 n3 c3), .bool true]) (by first | (simp [results, Try.results25, go_sem, m0, m1, m2]; done) | (simp [results, Try.results25, go_sem]; done)) rfl (by
            rw [HPZ.out]
            refine ⟨_, rfl, ?_, ((HB.out.setCell (Nat.le_succ _) _).setCell (Nat.le_succ _) _).setCell (Nat.le_succ _) _⟩
            have hne : ∀ o, (Value.slice A3 n3 c3).ownBlock ≠ some (⟨w.heap.size + 1, o, none⟩ : Addr).block := fun o e => by have := (HLT _ e).1; dsimp only at this; omega
            exact Own.mono (Own.set (Own.set (Own.set HO.out (hne 0) _) (hne 1) _) (hne 2) _) (by omega))
    · have hPZ : p = MRes.no := by rw [← HPD.out, if_neg (fun e => h40 e.2)]
      have d40 : (40 : Int) < (n : Int) := by omega
      clear HPD hbm
      have HPZ : Hid (p = MRes.no) := hPZ
      obtain ⟨⟨z0, z1, z2⟩, v0, v1, v2⟩ := R1.out
      go_wp2_with fail
      obtain ⟨⟨m0, m1, m2⟩, _⟩ := R1.out.stored (.int .i64 0) (.int .i64 0) (.slice none 0 0)
      exact bodyPost_ret (v := .tuple #[mv (0) (0) (.slice none 0 0), .bool false]) (by first | (simp [results, Try.results25, go_sem, m0, m1, m2]; done) | (simp [results, Try.results25, go_sem]; done)) rfl (by rw [HPZ.out]; exact ⟨_, rfl, Own.nil _ _, ((HB1.out.setCell (Nat.le_succ _) _).setCell (Nat.le_succ _) _).setCell (Nat.le_succ _) _⟩)
  · have hPZ : p = MRes.no := by rw [← HPD.out, if_neg (fun e => by rw [hbm] at e; cases e.1)]
    rw [hbm]
    clear HPD hbm
    have HPZ : Hid (p = MRes.no) := hPZ
    obtain ⟨⟨z0, z1, z2⟩, v0, v1, v2⟩ := R1.out
    go_wp2_with fail
    obtain ⟨⟨m0, m1, m2⟩, _⟩ := R1.out.stored (.int .i64 0) (.int .i64 0) (.slice none 0 0)
    exact bodyPost_ret (v := .tuple #[mv (0) (0) (.slice none 0 0), .bool false]) (by first | (simp [results, Try.results25, go_sem, m0, m1, m2]; done) | (simp [results, Try.results25, go_sem]; done)) rfl (by rw [HPZ.out]; exact ⟨_, rfl, Own.nil _ _, ((HB1.out.setCell (Nat.le_succ _) _).setCell (Nat.le_succ _) _).setCell (Nat.le_succ _) _⟩)
end Go.Proofs.Ythbmmoajfghjbaa
