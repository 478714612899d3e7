/- The walks of InverseOf. -/
import Derived.Test.YtchlaebkigmfgaaAdjS
namespace Go.Proofs.Ytchlaebkigmfgaa
open Go.RowKit
set_option linter.unusedSimpArgs false
set_option linter.unusedVariables false

def invRes (r c : Int) (xs : List Int) : MRes :=
  if ((adjRes r c xs).ok && unimod r c xs) = true then scRes (adjRes r c xs).R (adjRes r c xs).C (adjRes r c xs).L (detRes r c xs).1 else .no
theorem InverseOf_len {r c : Int} {xs : List Int} : (invRes r c xs).L.length ≤ 1048576 := by
  unfold invRes
  split
  · exact ScaleMatrix_len
  · exact Nat.zero_le _
set_option maxHeartbeats 4000000 in
theorem implInv (r c : Int) (A : Option Addr) (cap : Nat) (xs : List Int) (w : World) (hA : Sl w A xs.length cap xs) (hn : xs.length ≤ 1048576) :
    Calls Try.prog 30 #[mv r c (.slice A xs.length cap)] w (RetM w (invRes r c xs)) := by
  have HA := hide hA; clear hA
  have ca := fun w h => implAdj r c A cap xs w h hn
  have cu := fun w h => implUnimod r c A cap xs w h hn
  have cd := fun w h => implDetOf r c A cap xs w h hn
  have hXS := @AdjugateOf_len r c xs
  unfold invRes
  generalize detRes r c xs = p at *
  obtain ⟨D, K'⟩ := p
  generalize adjRes r c xs = m at *
  obtain ⟨R, C, XS, K⟩ := m
  have hX : XS.length ≤ 1048576 := hXS
  have cs := fun A cap w h => implScale R C D A cap XS w h hX
  have CA : Hid (∀ w, Sl w A xs.length cap xs → Calls Try.prog 21 #[mv r c (.slice A xs.length cap)] w (RetMat w R C XS K)) := ca
  have CD : Hid (∀ w, Sl w A xs.length cap xs → Calls Try.prog 14 #[mv r c (.slice A xs.length cap)] w fun e w' => e = .returned (.tuple #[.int .i64 D, .bool K']) ∧ Below w.heap.size w w') := cd
  simp only
  cases K with
  | false =>
    rw [show (if (false && unimod r c xs) = true then scRes R C XS D else MRes.no) = .no from by simp]
    clear ca cu cd cs hXS
    go_enter Try.func30, Try.ntmps30
    go_wp2_with fail
    refine (CA.out _ (HA.out.below (by repeat' (first | exact Below.refl _ _ | (refine Below.alloc ?_ ?_ _) | (refine Below.setCell ?_ ?_ _) | (refine Below.drew ?_) | (refine below_drewN ?_ _) | (refine Below.trans ?_ (Below.mono (by assumption) ?_)) | omega | (simp only [World.size_alloc, World.size_setCell, World.size_drew, size_drewN]; omega))))).mono ?_; rintro e w1 ⟨s, rfl, ho, hb⟩; obtain ⟨hc, hf⟩ := bcell hb; have hz := hb.size; (try simp only [World.size_alloc, World.size_setCell, World.size_drew, size_drewN] at hz); (first | have hs := up3 hz | have hs := up2 hz | have hs := up1 hz | have hs := up0 hz); (try have q10 := hs _ q9); (try have q9 := hs _ q8); (try have q8 := hs _ q7); (try have q7 := hs _ q6); (try have q6 := hs _ q5); (try have q5 := hs _ q4); (try have q4 := hs _ q3); (try have q3 := hs _ q2); (try have q2 := hs _ q1); (try have p7 := hs _ p6); (try have p6 := hs _ p5); (try have p5 := hs _ p4); (try have p4 := hs _ p3); (try have p3 := hs _ p2); (try have p2 := hs _ p1); (try have q1 := new1 hz); (try have p1 := new2 hz); (try have r1 := new3 hz); obtain ⟨A1, z1, rfl, _⟩ := Own.sl ho
    have b2 := hide (show Box3 w1 (w.heap.size + 1) (.int .i64 0) (.int .i64 0) (.slice none 0 0) from (by repeat' (first | with_reducible assumption | (with_reducible refine Box3.set ?_ ?_ _) | (with_reducible refine Box3.drew ?_) | (with_reducible refine Box3.drewN ?_ _) | (with_reducible exact Box3.new _ _ _ (by first | rfl | (simp only [World.size_alloc]; done) | (simp only [World.size_alloc]; omega))) | (with_reducible refine Box3.alloc ?_ _) | (with_reducible refine Box3.call ?_ (by assumption)) | (with_reducible refine Box3.grown ?_ (by assumption) (by simp; omega)) | omega | (dsimp only; omega) | (simp only [World.size_alloc, World.size_setCell, World.size_drew, size_drewN]; omega))))
    obtain ⟨⟨m0, m1, m2⟩, _⟩ := (Box3.stored b2.out (.int .i64 0) (.int .i64 0) (.slice none 0 0)).alloc (.cells #[.int .i64 R, .int .i64 C, .slice A1 XS.length z1] 28)
    obtain ⟨⟨r0, r1, r2⟩, f0, f1, f2⟩ := b2.out
    have HB : Hid (Below w.heap.size w w1) := (by repeat' (first | exact Below.refl _ _ | (refine Below.alloc ?_ ?_ _) | (refine Below.setCell ?_ ?_ _) | (refine Below.drew ?_) | (refine below_drewN ?_ _) | (refine Below.trans ?_ (Below.mono (by assumption) ?_)) | omega | (simp only [World.size_alloc, World.size_setCell, World.size_drew, size_drewN]; omega)))
    have hz1 := b2.out.lt
    go_wp2
    exact bodyPost_ret (v := .tuple #[mv (0) (0) (.slice none 0 0), .bool false]) (by first | (simp [results, Try.results30, go_sem, m0, m1, m2]; done) | (simp [results, Try.results30, go_sem]; done)) rfl (show RetMat w 0 0 [] false _ _ from ⟨_, rfl, Own.nil _ _, (((HB.out.setCell (by dsimp only; omega) _).setCell (by dsimp only; omega) _).setCell (by dsimp only; omega) _).alloc (by simp; omega) _⟩)
  | true =>
    rcases Bool.eq_false_or_eq_true (unimod r c xs) with hu | hu
    · rw [show (if (true && unimod r c xs) = true then scRes R C XS D else MRes.no) = scRes R C XS D from by simp [hu]]
      rw [hu] at cu
      generalize scRes R C XS D = m2 at *
      obtain ⟨R2, C2, XS2, K2⟩ := m2
      have CU := hide cu
      have CS : Hid (∀ A cap w, Sl w A XS.length cap XS → Calls Try.prog 35 #[mv R C (.slice A XS.length cap), .int .i64 D] w (RetMat w R2 C2 XS2 K2)) := cs
      clear ca cu cd cs hXS hu
      go_enter Try.func30, Try.ntmps30
      go_wp2_with fail
      refine (CA.out _ (HA.out.below (by repeat' (first | exact Below.refl _ _ | (refine Below.alloc ?_ ?_ _) | (refine Below.setCell ?_ ?_ _) | (refine Below.drew ?_) | (refine below_drewN ?_ _) | (refine Below.trans ?_ (Below.mono (by assumption) ?_)) | omega | (simp only [World.size_alloc, World.size_setCell, World.size_drew, size_drewN]; omega))))).mono ?_; rintro e w1 ⟨s, rfl, ho, hb⟩
      obtain ⟨A1, z1, rfl, _⟩ := Own.sl ho
      have p1 : Box3 w1 w.heap.size (.int .i64 r) (.int .i64 c) (.slice A xs.length cap) := (by repeat' (first | with_reducible assumption | (with_reducible refine Box3.set ?_ ?_ _) | (with_reducible refine Box3.drew ?_) | (with_reducible refine Box3.drewN ?_ _) | (with_reducible exact Box3.new _ _ _ (by first | rfl | (simp only [World.size_alloc]; done) | (simp only [World.size_alloc]; omega))) | (with_reducible refine Box3.alloc ?_ _) | (with_reducible refine Box3.call ?_ (by assumption)) | (with_reducible refine Box3.grown ?_ (by assumption) (by simp; omega)) | omega | (dsimp only; omega) | (simp only [World.size_alloc, World.size_setCell, World.size_drew, size_drewN]; omega)))
      have t1 := hide (show Box3 w1 (w.heap.size + 1) (.int .i64 0) (.int .i64 0) (.slice none 0 0) from (by repeat' (first | with_reducible assumption | (with_reducible refine Box3.set ?_ ?_ _) | (with_reducible refine Box3.drew ?_) | (with_reducible refine Box3.drewN ?_ _) | (with_reducible exact Box3.new _ _ _ (by first | rfl | (simp only [World.size_alloc]; done) | (simp only [World.size_alloc]; omega))) | (with_reducible refine Box3.alloc ?_ _) | (with_reducible refine Box3.call ?_ (by assumption)) | (with_reducible refine Box3.grown ?_ (by assumption) (by simp; omega)) | omega | (dsimp only; omega) | (simp only [World.size_alloc, World.size_setCell, World.size_drew, size_drewN]; omega))))
      have HB1 : Hid (Below w.heap.size w w1) := (by repeat' (first | exact Below.refl _ _ | (refine Below.alloc ?_ ?_ _) | (refine Below.setCell ?_ ?_ _) | (refine Below.drew ?_) | (refine below_drewN ?_ _) | (refine Below.trans ?_ (Below.mono (by assumption) ?_)) | omega | (simp only [World.size_alloc, World.size_setCell, World.size_drew, size_drewN]; omega)))
      have P1 := hide (p1.alloc (.cells #[.int .i64 R, .int .i64 C, .slice A1 XS.length z1] 28))
      have T1 := hide (t1.out.alloc (.cells #[.int .i64 R, .int .i64 C, .slice A1 XS.length z1] 28))
      have G1 := hide (Box3.new (x := .int .i64 R) (y := .int .i64 C) (z := .slice A1 XS.length z1) w1 w1.heap.size 28 rfl)
      have O1 := hide (ho.alloc (.cells #[.int .i64 R, .int .i64 C, .slice A1 XS.length z1] 28))
      have D1 := hide (HB1.out.alloc HB1.out.size (.cells #[.int .i64 R, .int .i64 C, .slice A1 XS.length z1] 28))
      have hz1 := t1.out.lt
      have hz0 := p1.lt
      clear hb ho t1
      obtain ⟨⟨a0, a1, a2⟩, _⟩ := p1
      go_wp2_with fail
      refine (CU.out _ (HA.out.below D1.out)).mono ?_; rintro e w2 ⟨rfl, hb⟩
      have P2 := hide (P1.out.call hb)
      have T2 := hide (T1.out.call hb)
      have G2 := hide (G1.out.call hb)
      have O2 := hide (O1.out.below hb)
      have D2 := hide (kb_call D1.out (Nat.le_refl _) hb)
      have hz2 := G2.out.lt
      clear hb P1 T1 G1 O1 D1 a0 a1 a2 HB1
      obtain ⟨⟨a0, a1, a2⟩, _⟩ := P2.out
      go_wp2_with fail
      refine (CD.out _ (HA.out.below D2.out)).mono ?_; rintro e w3 ⟨rfl, hb⟩
      have T3 := hide (T2.out.call hb)
      have G3 := hide (G2.out.call hb)
      have O3 := hide (O2.out.below hb)
      have D3 := hide (kb_call D2.out (Nat.le_refl _) hb)
      clear hb P2 T2 G2 O2 D2 a0 a1 a2
      obtain ⟨⟨a0, a1, a2⟩, _⟩ := G3.out
      go_wp2_with fail
      refine (CS.out _ _ _ (Own.sl2 O3.out)).mono ?_; rintro e w4 ⟨s4, rfl, ho, hb⟩
      obtain ⟨A4, z4, rfl, _⟩ := Own.sl ho
      have T4 := hide (T3.out.call hb)
      have D4 := hide (kb_call D3.out (Nat.le_refl _) hb)
      have O4 := hide ho
      have hl4 := hide (Own.lt ho)
      have hz4 := T3.out.lt
      have hz3 := D3.out.size
      clear hb ho T3 G3 O3 D3 a0 a1 a2
      obtain ⟨⟨r0, r1, r2⟩, f0, f1, f2⟩ := T4.out
      obtain ⟨⟨m0, m1, m2⟩, _⟩ := Box3.stored T4.out (.int .i64 R2) (.int .i64 C2) (.slice A4 XS2.length z4)
      go_wp2
      exact bodyPost_ret (v := .tuple #[mv R2 C2 (.slice A4 XS2.length z4), .bool K2]) (by simp [results, Try.results30, go_sem, m0, m1, m2]) rfl (show RetMat w R2 C2 XS2 K2 _ _ from ⟨_, rfl, Own.mono (lo := w3.heap.size) (((O4.out.set (own_nl hl4.out (.inl (by dsimp only; omega))) _).set (own_nl hl4.out (.inl (by dsimp only; omega))) _).set (own_nl hl4.out (.inl (by dsimp only; omega))) _) (by omega), ((D4.out.setCell (by dsimp only; omega) _).setCell (by dsimp only; omega) _).setCell (by dsimp only; omega) _⟩)
    · rw [show (if (true && unimod r c xs) = true then scRes R C XS D else MRes.no) = .no from by simp [hu]]
      rw [hu] at cu
      have CU := hide cu
      clear ca cu cd cs hXS hu
      go_enter Try.func30, Try.ntmps30
      go_wp2_with fail
      refine (CA.out _ (HA.out.below (by repeat' (first | exact Below.refl _ _ | (refine Below.alloc ?_ ?_ _) | (refine Below.setCell ?_ ?_ _) | (refine Below.drew ?_) | (refine below_drewN ?_ _) | (refine Below.trans ?_ (Below.mono (by assumption) ?_)) | omega | (simp only [World.size_alloc, World.size_setCell, World.size_drew, size_drewN]; omega))))).mono ?_; rintro e w1 ⟨s, rfl, ho, hb⟩
      obtain ⟨A1, z1, rfl, _⟩ := Own.sl ho
      have p1 : Box3 w1 w.heap.size (.int .i64 r) (.int .i64 c) (.slice A xs.length cap) := (by repeat' (first | with_reducible assumption | (with_reducible refine Box3.set ?_ ?_ _) | (with_reducible refine Box3.drew ?_) | (with_reducible refine Box3.drewN ?_ _) | (with_reducible exact Box3.new _ _ _ (by first | rfl | (simp only [World.size_alloc]; done) | (simp only [World.size_alloc]; omega))) | (with_reducible refine Box3.alloc ?_ _) | (with_reducible refine Box3.call ?_ (by assumption)) | (with_reducible refine Box3.grown ?_ (by assumption) (by simp; omega)) | omega | (dsimp only; omega) | (simp only [World.size_alloc, World.size_setCell, World.size_drew, size_drewN]; omega)))
      have t1 := hide (show Box3 w1 (w.heap.size + 1) (.int .i64 0) (.int .i64 0) (.slice none 0 0) from (by repeat' (first | with_reducible assumption | (with_reducible refine Box3.set ?_ ?_ _) | (with_reducible refine Box3.drew ?_) | (with_reducible refine Box3.drewN ?_ _) | (with_reducible exact Box3.new _ _ _ (by first | rfl | (simp only [World.size_alloc]; done) | (simp only [World.size_alloc]; omega))) | (with_reducible refine Box3.alloc ?_ _) | (with_reducible refine Box3.call ?_ (by assumption)) | (with_reducible refine Box3.grown ?_ (by assumption) (by simp; omega)) | omega | (dsimp only; omega) | (simp only [World.size_alloc, World.size_setCell, World.size_drew, size_drewN]; omega))))
      have HB1 : Hid (Below w.heap.size w w1) := (by repeat' (first | exact Below.refl _ _ | (refine Below.alloc ?_ ?_ _) | (refine Below.setCell ?_ ?_ _) | (refine Below.drew ?_) | (refine below_drewN ?_ _) | (refine Below.trans ?_ (Below.mono (by assumption) ?_)) | omega | (simp only [World.size_alloc, World.size_setCell, World.size_drew, size_drewN]; omega)))
      have P1 := hide (p1.alloc (.cells #[.int .i64 R, .int .i64 C, .slice A1 XS.length z1] 28))
      have T1 := hide (t1.out.alloc (.cells #[.int .i64 R, .int .i64 C, .slice A1 XS.length z1] 28))
      have G1 := hide (Box3.new (x := .int .i64 R) (y := .int .i64 C) (z := .slice A1 XS.length z1) w1 w1.heap.size 28 rfl)
      have O1 := hide (ho.alloc (.cells #[.int .i64 R, .int .i64 C, .slice A1 XS.length z1] 28))
      have D1 := hide (HB1.out.alloc HB1.out.size (.cells #[.int .i64 R, .int .i64 C, .slice A1 XS.length z1] 28))
      have hz1 := t1.out.lt
      have hz0 := p1.lt
      clear hb ho t1
      obtain ⟨⟨a0, a1, a2⟩, _⟩ := p1
      go_wp2_with fail
      refine (CU.out _ (HA.out.below D1.out)).mono ?_; rintro e w2 ⟨rfl, hb⟩
      have P2 := hide (P1.out.call hb)
      have T2 := hide (T1.out.call hb)
      have G2 := hide (G1.out.call hb)
      have O2 := hide (O1.out.below hb)
      have D2 := hide (kb_call D1.out (Nat.le_refl _) hb)
      have hz2 := G2.out.lt
      clear hb P1 T1 G1 O1 D1 a0 a1 a2 HB1
      obtain ⟨⟨r0, r1, r2⟩, f0, f1, f2⟩ := T2.out
      obtain ⟨⟨m0, m1, m2⟩, _⟩ := Box3.stored T2.out (.int .i64 0) (.int .i64 0) (.slice none 0 0)
      go_wp2
      exact bodyPost_ret (v := .tuple #[mv (0) (0) (.slice none 0 0), .bool false]) (by first | (simp [results, Try.results30, go_sem, m0, m1, m2]; done) | (simp [results, Try.results30, go_sem]; done)) rfl (show RetMat w 0 0 [] false _ _ from ⟨_, rfl, Own.nil _ _, ((D2.out.setCell (by dsimp only; omega) _).setCell (by dsimp only; omega) _).setCell (by dsimp only; omega) _⟩)
set_option maxHeartbeats 4000000 in
theorem specInv (r c : Int) (A : Option Addr) (cap : Nat) (xs : List Int) (w : World) (hA : Sl w A xs.length cap xs) (hn : xs.length ≤ 1048576) :
    Calls Try.prog 29 #[mv r c (.slice A xs.length cap)] w (RetM w (invRes r c xs)) := by
  have HA := hide hA; clear hA
  have ca := fun w h => specAdj r c A cap xs w h hn
  have cu := fun w h => specUnimod r c A cap xs w h hn
  have cd := fun w h => specDetOf r c A cap xs w h hn
  have hXS := @AdjugateOf_len r c xs
  unfold invRes
  generalize detRes r c xs = p at *
  obtain ⟨D, K'⟩ := p
  generalize adjRes r c xs = m at *
  obtain ⟨R, C, XS, K⟩ := m
  have hX : XS.length ≤ 1048576 := hXS
  have cs := fun A cap w h => specScale R C D A cap XS w h hX
  have CA : Hid (∀ w, Sl w A xs.length cap xs → Calls Try.prog 20 #[mv r c (.slice A xs.length cap)] w (RetMat w R C XS K)) := ca
  have CD : Hid (∀ w, Sl w A xs.length cap xs → Calls Try.prog 12 #[mv r c (.slice A xs.length cap)] w fun e w' => e = .returned (.tuple #[.int .i64 D, .bool K']) ∧ Below w.heap.size w w') := cd
  simp only
  rcases Bool.eq_false_or_eq_true (unimod r c xs) with hu | hu
  · rw [hu] at cu ⊢
    have CU := hide cu
    have bp0 := hide (show Box3 ((w.alloc (.cells #[.int .i64 r, .int .i64 c, .slice A xs.length cap] 28)).alloc (.cells #[.int .i64 0, .int .i64 0, .slice none 0 0] 28)) w.heap.size (.int .i64 r) (.int .i64 c) (.slice A xs.length cap) from (by repeat' (first | with_reducible assumption | (with_reducible refine Box3.set ?_ ?_ _) | (with_reducible refine Box3.drew ?_) | (with_reducible refine Box3.drewN ?_ _) | (with_reducible exact Box3.new _ _ _ (by first | rfl | (simp only [World.size_alloc]; done) | (simp only [World.size_alloc]; omega))) | (with_reducible refine Box3.alloc ?_ _) | (with_reducible refine Box3.call ?_ (by assumption)) | (with_reducible refine Box3.grown ?_ (by assumption) (by simp; omega)) | omega | (dsimp only; omega) | (simp only [World.size_alloc, World.size_setCell, World.size_drew, size_drewN]; omega))))
    have br0 := hide (show Box3 ((w.alloc (.cells #[.int .i64 r, .int .i64 c, .slice A xs.length cap] 28)).alloc (.cells #[.int .i64 0, .int .i64 0, .slice none 0 0] 28)) (w.heap.size + 1) (.int .i64 0) (.int .i64 0) (.slice none 0 0) from (by repeat' (first | with_reducible assumption | (with_reducible refine Box3.set ?_ ?_ _) | (with_reducible refine Box3.drew ?_) | (with_reducible refine Box3.drewN ?_ _) | (with_reducible exact Box3.new _ _ _ (by first | rfl | (simp only [World.size_alloc]; done) | (simp only [World.size_alloc]; omega))) | (with_reducible refine Box3.alloc ?_ _) | (with_reducible refine Box3.call ?_ (by assumption)) | (with_reducible refine Box3.grown ?_ (by assumption) (by simp; omega)) | omega | (dsimp only; omega) | (simp only [World.size_alloc, World.size_setCell, World.size_drew, size_drewN]; omega))))
    have D0 : Hid (Below w.heap.size w ((w.alloc (.cells #[.int .i64 r, .int .i64 c, .slice A xs.length cap] 28)).alloc (.cells #[.int .i64 0, .int .i64 0, .slice none 0 0] 28))) := (by repeat' (first | exact Below.refl _ _ | (refine Below.alloc ?_ ?_ _) | (refine Below.setCell ?_ ?_ _) | (refine Below.drew ?_) | (refine below_drewN ?_ _) | (refine Below.trans ?_ (Below.mono (by assumption) ?_)) | omega | (simp only [World.size_alloc, World.size_setCell, World.size_drew, size_drewN]; omega)))
    cases K with
    | false =>
      rw [show (if (false && true) = true then scRes R C XS D else MRes.no) = .no from by simp]
      clear ca cu cd cs hXS hu
      go_enter Try.func29, Try.ntmps29
      go_wp2_with fail
      refine (CU.out _ (HA.out.below D0.out)).mono ?_; rintro e w1 ⟨rfl, hb⟩
      have P1 := hide (bp0.out.call hb)
      have T1 := hide (br0.out.call hb)
      have D1 := hide (kb_call D0.out (Nat.le_refl _) hb)
      clear hb bp0 br0 D0
      obtain ⟨⟨a0, a1, a2⟩, _⟩ := P1.out
      go_wp2_with fail
      refine (CA.out _ (HA.out.below D1.out)).mono ?_; rintro e w2 ⟨s, rfl, ho, hb⟩
      obtain ⟨A1, z1, rfl, _⟩ := Own.sl ho
      have T2 := hide (T1.out.call hb)
      have D2 := hide (kb_call D1.out (Nat.le_refl _) hb)
      have hz2 := T2.out.lt
      clear hb ho P1 T1 D1 a0 a1 a2
      obtain ⟨⟨r0, r1, r2⟩, f0, f1, f2⟩ := T2.out
      obtain ⟨⟨m0, m1, m2⟩, _⟩ := (Box3.stored T2.out (.int .i64 0) (.int .i64 0) (.slice none 0 0)).alloc (.cells #[.int .i64 R, .int .i64 C, .slice A1 XS.length z1] 28)
      go_wp2
      exact bodyPost_ret (v := .tuple #[mv (0) (0) (.slice none 0 0), .bool false]) (by first | (simp [results, Try.results29, go_sem, m0, m1, m2]; done) | (simp [results, Try.results29, go_sem]; done)) rfl (show RetMat w 0 0 [] false _ _ from ⟨_, rfl, Own.nil _ _, (((D2.out.setCell (by dsimp only; omega) _).setCell (by dsimp only; omega) _).setCell (by dsimp only; omega) _).alloc (by simp; omega) _⟩)
    | true =>
      rw [show (if (true && true) = true then scRes R C XS D else MRes.no) = scRes R C XS D from by simp]
      generalize scRes R C XS D = m2 at *
      obtain ⟨R2, C2, XS2, K2⟩ := m2
      have CS : Hid (∀ A cap w, Sl w A XS.length cap XS → Calls Try.prog 71 #[mv R C (.slice A XS.length cap), .int .i64 D] w (RetMat w R2 C2 XS2 K2)) := cs
      clear ca cu cd cs hXS hu
      go_enter Try.func29, Try.ntmps29
      go_wp2_with fail
      refine (CU.out _ (HA.out.below D0.out)).mono ?_; rintro e w1 ⟨rfl, hb⟩
      have P1 := hide (bp0.out.call hb)
      have T1 := hide (br0.out.call hb)
      have D1 := hide (kb_call D0.out (Nat.le_refl _) hb)
      clear hb bp0 br0 D0
      obtain ⟨⟨a0, a1, a2⟩, _⟩ := P1.out
      go_wp2_with fail
      refine (CA.out _ (HA.out.below D1.out)).mono ?_; rintro e w2 ⟨s, rfl, ho, hb⟩
      obtain ⟨A1, z1, rfl, _⟩ := Own.sl ho
      have P2 := hide ((P1.out.call hb).alloc (.cells #[.int .i64 R, .int .i64 C, .slice A1 XS.length z1] 28))
      have T2 := hide ((T1.out.call hb).alloc (.cells #[.int .i64 R, .int .i64 C, .slice A1 XS.length z1] 28))
      have G2 := hide (Box3.new (x := .int .i64 R) (y := .int .i64 C) (z := .slice A1 XS.length z1) w2 w2.heap.size 28 rfl)
      have O2 := hide (ho.alloc (.cells #[.int .i64 R, .int .i64 C, .slice A1 XS.length z1] 28))
      have hD := kb_call D1.out (Nat.le_refl _) hb
      have D2 := hide (hD.alloc hD.size (.cells #[.int .i64 R, .int .i64 C, .slice A1 XS.length z1] 28))
      have hz1 := T1.out.lt
      have hz12 := hb.size
      have p2 := P1.out.call hb
      have hz0 := p2.lt
      have hz00 := P1.out.lt
      clear hb ho hD P1 T1 D1 a0 a1 a2
      obtain ⟨⟨a0, a1, a2⟩, _⟩ := p2
      go_wp2_with fail
      refine (CD.out _ (HA.out.below D2.out)).mono ?_; rintro e w3 ⟨rfl, hb⟩
      have T3 := hide (T2.out.call hb)
      have G3 := hide (G2.out.call hb)
      have O3 := hide (O2.out.below hb)
      have D3 := hide (kb_call D2.out (Nat.le_refl _) hb)
      have hz3 := hb.size
      simp only [World.size_alloc] at hz3
      clear hb P2 T2 G2 O2 D2 a0 a1 a2
      obtain ⟨⟨a0, a1, a2⟩, _⟩ := G3.out
      go_wp2_with fail
      refine (CS.out _ _ _ (Own.sl2 O3.out)).mono ?_; rintro e w4 ⟨s4, rfl, ho, hb⟩
      obtain ⟨A4, z4, rfl, _⟩ := Own.sl ho
      have T4 := hide (T3.out.call hb)
      have D4 := hide (kb_call D3.out (Nat.le_refl _) hb)
      have O4 := hide ho
      have hl4 := hide (Own.lt ho)
      have hz4 := hb.size
      have hz40 := T4.out.lt
      have hz41 := D4.out.size
      have hz31 := T3.out.lt
      clear hb ho T3 G3 O3 D3 a0 a1 a2
      obtain ⟨⟨r0, r1, r2⟩, f0, f1, f2⟩ := T4.out
      obtain ⟨⟨m0, m1, m2⟩, _⟩ := (Box3.stored T4.out (.int .i64 R2) (.int .i64 C2) (.slice A4 XS2.length z4)).alloc (.cells #[.int .i64 R2, .int .i64 C2, .slice A4 XS2.length z4] 28)
      go_wp2
      exact bodyPost_ret (v := .tuple #[mv R2 C2 (.slice A4 XS2.length z4), .bool K2]) (by simp [results, Try.results29, go_sem, m0, m1, m2]) rfl (show RetMat w R2 C2 XS2 K2 _ _ from ⟨_, rfl, Own.mono (lo := w3.heap.size) ((((O4.out.set (own_nl hl4.out (.inl (by dsimp only; omega))) _).set (own_nl hl4.out (.inl (by dsimp only; omega))) _).set (own_nl hl4.out (.inl (by dsimp only; omega))) _).alloc _) (by omega), (((D4.out.setCell (by dsimp only; omega) _).setCell (by dsimp only; omega) _).setCell (by dsimp only; omega) _).alloc (by simp; omega) _⟩)
  · rw [hu] at cu ⊢
    have CU := hide cu
    rw [show (if (K && false) = true then scRes R C XS D else MRes.no) = .no from by simp]
    clear ca cu cd cs hXS hu
    go_enter Try.func29, Try.ntmps29
    go_wp2_with fail
    refine (CU.out _ (HA.out.below (by repeat' (first | exact Below.refl _ _ | (refine Below.alloc ?_ ?_ _) | (refine Below.setCell ?_ ?_ _) | (refine Below.drew ?_) | (refine below_drewN ?_ _) | (refine Below.trans ?_ (Below.mono (by assumption) ?_)) | omega | (simp only [World.size_alloc, World.size_setCell, World.size_drew, size_drewN]; omega))))).mono ?_; rintro e w1 ⟨rfl, hb⟩; obtain ⟨hc, hf⟩ := bcell hb; have hz := hb.size; (try simp only [World.size_alloc, World.size_setCell, World.size_drew, size_drewN] at hz); (first | have hs := up3 hz | have hs := up2 hz | have hs := up1 hz | have hs := up0 hz); (try have q10 := hs _ q9); (try have q9 := hs _ q8); (try have q8 := hs _ q7); (try have q7 := hs _ q6); (try have q6 := hs _ q5); (try have q5 := hs _ q4); (try have q4 := hs _ q3); (try have q3 := hs _ q2); (try have q2 := hs _ q1); (try have p7 := hs _ p6); (try have p6 := hs _ p5); (try have p5 := hs _ p4); (try have p4 := hs _ p3); (try have p3 := hs _ p2); (try have p2 := hs _ p1); (try have q1 := new1 hz); (try have p1 := new2 hz); (try have r1 := new3 hz)
    have bx : Box3 w1 (w.heap.size + 1) (.int .i64 0) (.int .i64 0) (.slice none 0 0) := (by repeat' (first | with_reducible assumption | (with_reducible refine Box3.set ?_ ?_ _) | (with_reducible refine Box3.drew ?_) | (with_reducible refine Box3.drewN ?_ _) | (with_reducible exact Box3.new _ _ _ (by first | rfl | (simp only [World.size_alloc]; done) | (simp only [World.size_alloc]; omega))) | (with_reducible refine Box3.alloc ?_ _) | (with_reducible refine Box3.call ?_ (by assumption)) | (with_reducible refine Box3.grown ?_ (by assumption) (by simp; omega)) | omega | (dsimp only; omega) | (simp only [World.size_alloc, World.size_setCell, World.size_drew, size_drewN]; omega)))
    obtain ⟨⟨m0, m1, m2⟩, _⟩ := Box3.stored bx (.int .i64 0) (.int .i64 0) (.slice none 0 0)
    go_wp2
    exact bodyPost_ret (v := .tuple #[mv (0) (0) (.slice none 0 0), .bool false]) (by first | (simp [results, Try.results29, go_sem, m0, m1, m2]; done) | (simp [results, Try.results29, go_sem]; done)) rfl (show RetMat w 0 0 [] false _ _ from ⟨_, rfl, Own.nil _ _, (by repeat' (first | exact Below.refl _ _ | (refine Below.alloc ?_ ?_ _) | (refine Below.setCell ?_ ?_ _) | (refine Below.drew ?_) | (refine below_drewN ?_ _) | (refine Below.trans ?_ (Below.mono (by assumption) ?_)) | omega | (simp only [World.size_alloc, World.size_setCell, World.size_drew, size_drewN]; omega)))⟩)
end Go.Proofs.Ytchlaebkigmfgaa
