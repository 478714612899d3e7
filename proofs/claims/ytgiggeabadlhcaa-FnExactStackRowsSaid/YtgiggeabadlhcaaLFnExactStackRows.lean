/- The walk of FnExactStackRows. -/
import Derived.Test.YtgiggeabadlhcaaStackW
import Derived.Test.YtgiggeabadlhcaaRowLib
import Derived.Deep.RegionHeld3
import Derived.Deep.RegionWith
import Derived.Deep.DeepCutAuto
namespace Go.Proofs.Ytgiggeabadlhcaa
open Go.RowKit
set_option linter.unusedSimpArgs false
set_option linter.unusedVariables false
set_option maxRecDepth 100000 in
set_option maxHeartbeats 16000000 in
theorem lawFnExactStackRows (r c r' c' : Int) (A B : Option Addr) (p q : Nat) (xs ys : List Int) (w : World) (hA : SlI w A xs) (hm : xs.length ≤ maxLen) (hB : SlI w B ys) (hm' : ys.length ≤ maxLen) :
    Calls Try.prog 9 #[mv r c (.slice A xs.length p), mv r' c' (.slice B ys.length q)] w fun e w' => e = .returned (.bool true) ∧ Below w.heap.size w w' := by
  unfold maxLen at hm hm'
  have HA := hide hA; clear hA
  have HB := hide hB; clear hB
  by_cases hn : xs.length ≤ 1048576
  · by_cases hx : (ys.length : Int) ≤ 1048576 - xs.length
    · have hn' : ys.length ≤ 1048576 := by omega
      have cs := fun A B p q w (h : Sl w A xs.length p xs) (h' : Sl w B ys.length q ys) => specStack r c r' c' A B p q xs ys w h hn h' hn'
      have ci := fun A B p q w (h : Sl w A xs.length p xs) (h' : Sl w B ys.length q ys) => implStack r c r' c' A B p q xs ys w h hn h' hn'
      have hX : (stkRes r c xs r' c' ys).L.length ≤ 1048576 := StackRows_len
      obtain ⟨⟨R, C, XS, K⟩, hM⟩ : ∃ m, stkRes r c xs r' c' ys = m := ⟨_, rfl⟩
      rw [hM] at cs ci hX
      have CS : Hid (∀ A B p q w, Sl w A xs.length p xs → Sl w B ys.length q ys → Calls Try.prog 30 #[mv r c (.slice A xs.length p), mv r' c' (.slice B ys.length q)] w (RetMat w R C XS K)) := cs
      have CI : Hid (∀ A B p q w, Sl w A xs.length p xs → Sl w B ys.length q ys → Calls Try.prog 31 #[mv r c (.slice A xs.length p), mv r' c' (.slice B ys.length q)] w (RetMat w R C XS K)) := ci
      have hX' : XS.length ≤ 1048576 := hX
      have eK : (K != K) = false := by simp
      clear cs ci hX hM
      go_enter Try.func9, Try.ntmps9
      go_wp2_with fail
      refine (szMatrix_yes r c A p xs.length 1048576 _ (by omega) (by omega) (by omega)).mono ?_; rintro e w1 ⟨rfl, hb⟩; obtain ⟨hc, hf⟩ := bcell hb; have hz := hb.size; (try simp only [World.size_alloc, World.size_setCell, World.size_drew, size_drewN] at hz); (first | have hs := up3 hz | have hs := up2 hz | have hs := up1 hz | have hs := up0 hz); (try have q10 := hs _ q9); (try have q9 := hs _ q8); (try have q8 := hs _ q7); (try have q7 := hs _ q6); (try have q6 := hs _ q5); (try have q5 := hs _ q4); (try have q4 := hs _ q3); (try have q3 := hs _ q2); (try have q2 := hs _ q1); (try have p7 := hs _ p6); (try have p6 := hs _ p5); (try have p5 := hs _ p4); (try have p4 := hs _ p3); (try have p3 := hs _ p2); (try have p2 := hs _ p1); (try have q1 := new1 hz); (try have p1 := new2 hz); (try have r1 := new3 hz)
      go_wp2_with fail
      refine (szMatrix_yes r' c' B q ys.length (1048576 - xs.length) _ (by omega) (by omega) hx).mono ?_; rintro e w2 ⟨rfl, hb⟩; obtain ⟨hc, hf⟩ := bcell hb; have hz := hb.size; (try simp only [World.size_alloc, World.size_setCell, World.size_drew, size_drewN] at hz); (first | have hs := up3 hz | have hs := up2 hz | have hs := up1 hz | have hs := up0 hz); (try have q10 := hs _ q9); (try have q9 := hs _ q8); (try have q8 := hs _ q7); (try have q7 := hs _ q6); (try have q6 := hs _ q5); (try have q5 := hs _ q4); (try have q4 := hs _ q3); (try have q3 := hs _ q2); (try have q2 := hs _ q1); (try have p7 := hs _ p6); (try have p6 := hs _ p5); (try have p5 := hs _ p4); (try have p4 := hs _ p3); (try have p3 := hs _ p2); (try have p2 := hs _ p1); (try have q1 := new1 hz); (try have p1 := new2 hz); (try have r1 := new3 hz)
      have hB0 : Box3 w2 w.heap.size (.int .i64 r) (.int .i64 c) (.slice A xs.length p) := (by repeat' (first | with_reducible assumption | (with_reducible refine Box3.set ?_ ?_ _) | (with_reducible refine Box3.drew ?_) | (with_reducible refine Box3.drewN ?_ _) | (with_reducible exact Box3.new _ _ _ (by first | rfl | (simp only [World.size_alloc]; done) | (simp only [World.size_alloc]; omega))) | (with_reducible refine Box3.alloc ?_ _) | (with_reducible refine Box3.call ?_ (by assumption)) | (with_reducible refine Box3.grown ?_ (by assumption) (by simp; omega)) | omega | (dsimp only; omega) | (simp only [World.size_alloc, World.size_setCell, World.size_drew, size_drewN]; omega)))
      have hB1 : Box3 w2 (w.heap.size + 1) (.int .i64 r') (.int .i64 c') (.slice B ys.length q) := (by repeat' (first | with_reducible assumption | (with_reducible refine Box3.set ?_ ?_ _) | (with_reducible refine Box3.drew ?_) | (with_reducible refine Box3.drewN ?_ _) | (with_reducible exact Box3.new _ _ _ (by first | rfl | (simp only [World.size_alloc]; done) | (simp only [World.size_alloc]; omega))) | (with_reducible refine Box3.alloc ?_ _) | (with_reducible refine Box3.call ?_ (by assumption)) | (with_reducible refine Box3.grown ?_ (by assumption) (by simp; omega)) | omega | (dsimp only; omega) | (simp only [World.size_alloc, World.size_setCell, World.size_drew, size_drewN]; omega)))
      have hW2 : Below w.heap.size w w2 := (by repeat' (first | exact Below.refl _ _ | (refine Below.alloc ?_ ?_ _) | (refine Below.setCell ?_ ?_ _) | (refine Below.drew ?_) | (refine below_drewN ?_ _) | (refine Below.trans ?_ (Below.mono (by assumption) ?_)) | omega | (simp only [World.size_alloc, World.size_setCell, World.size_drew, size_drewN]; omega)))
      have v1 : w.heap.size + 1 < w2.heap.size := hB1.lt
      clear hb hc hf hs hz
      have k0 := hide hB0
      have k1 := hide hB1
      clear hB0 hB1
      have HA2 := hide (SlI.below HA.out hW2)
      have HB2 := hide (SlI.below HB.out hW2)
      go_wp2_with fail
      go_cut [6, 7] (fun s6 s7 wx => ∃ (g : Nat) (A0 : Option Addr) (z0 : Nat), s6 = .pointer (some ⟨g, 0, none⟩) ∧ s7 = .bool K ∧ w2.heap.size ≤ g ∧ Box3 wx g (.int .i64 R) (.int .i64 C) (.slice A0 XS.length z0) ∧ Own wx w2.heap.size (.slice A0 XS.length z0) XS ∧ Below w2.heap.size w2 wx)
      case first =>
        rename_i K0 hK0 J0 K1 hJ0 hM0
        clear hK0 K0
        clear hb hc hf hs hz q1 p1 CI eK hX' hW2 HA HB
        have KS : Hid (∀ w', Below w2.heap.size w2 w' → w'.cell? ⟨w.heap.size, 0, none⟩ = some (.int .i64 r) ∧ w'.cell? ⟨w.heap.size, 1, none⟩ = some (.int .i64 c) ∧ w'.cell? ⟨w.heap.size, 2, none⟩ = some (.slice A xs.length p) ∧ w'.cell? ⟨w.heap.size + 1, 0, none⟩ = some (.int .i64 r') ∧ w'.cell? ⟨w.heap.size + 1, 1, none⟩ = some (.int .i64 c') ∧ w'.cell? ⟨w.heap.size + 1, 2, none⟩ = some (.slice B ys.length q) ∧ Below w2.heap.size w2 w') := fun w' h => by
          obtain ⟨⟨x0, x1, x2⟩, _⟩ := k0.out.call h
          obtain ⟨⟨y0, y1, y2⟩, _⟩ := k1.out.call h
          exact ⟨x0, x1, x2, y0, y1, y2, h⟩
        go_region_held3 (fun w' => w'.cell? ⟨w.heap.size, 0, none⟩ = some (.int .i64 r) ∧ w'.cell? ⟨w.heap.size, 1, none⟩ = some (.int .i64 c) ∧ w'.cell? ⟨w.heap.size, 2, none⟩ = some (.slice A xs.length p) ∧ w'.cell? ⟨w.heap.size + 1, 0, none⟩ = some (.int .i64 r') ∧ w'.cell? ⟨w.heap.size + 1, 1, none⟩ = some (.int .i64 c') ∧ w'.cell? ⟨w.heap.size + 1, 2, none⟩ = some (.slice B ys.length q) ∧ Below w2.heap.size w2 w')
          (first
            | (with_reducible exact KS.out _ (Below.drew (Below.refl _ _)))
            | (with_reducible exact KS.out _ (Below.drew (Below.alloc (Below.refl _ _) (Nat.le_refl _) _)))
            | (have hh := (‹_ ∧ _ ∧ _ ∧ _ ∧ _ ∧ _ ∧ Below w2.heap.size w2 _›).2.2.2.2.2.2
               first
               | (with_reducible exact KS.out _ (kb_call hh (Nat.le_refl _) hb))
               | (with_reducible exact KS.out _ (Below.alloc hh hh.size _))
               | exact KS.out _ (kb_swap hh (by omega))
               | exact KS.out _ (((hh.setCell (by dsimp only; omega) _).setCell (by dsimp only; omega) _).setCell (by dsimp only; omega) _)))
          (first
            | (go_at_call_of 12 (Value.slice A xs.length p); have hh := (‹_ ∧ _ ∧ _ ∧ _ ∧ _ ∧ _ ∧ Below w2.heap.size w2 _›).2.2.2.2.2.2; (with_reducible refine (toMatrix r c A p xs _ (SlI.below HA2.out hh) hn).mono ?_); rintro e w1 ⟨rfl, ho, hb⟩; have hz := hb.size; (try simp only [World.size_alloc, World.size_setCell, World.size_drew, size_drewN] at hz ho); have HOA := hide ho; (first | have GB := hide (Box3.call (Box3.new (x := .int .i64 0) (y := .int .i64 0) (z := .slice none 0 0) _ _ _ rfl) hb) | have GB := hide (Box3.call (Box3.drew (Box3.new (x := .int .i64 0) (y := .int .i64 0) (z := .slice none 0 0) _ _ _ rfl)) hb) | have GB := hide (Box3.call GB.out hb) | skip); clear ho hh)
            | (go_at_call_of 12 (Value.slice B ys.length q); have hh := (‹_ ∧ _ ∧ _ ∧ _ ∧ _ ∧ _ ∧ Below w2.heap.size w2 _›).2.2.2.2.2.2; (with_reducible refine (toMatrix r' c' B q ys _ (SlI.below HB2.out hh) hn').mono ?_); rintro e w1 ⟨rfl, ho, hb⟩; have hz := hb.size; (try simp only [World.size_alloc, World.size_setCell, World.size_drew, size_drewN] at hz ho); have HOB := hide ho; (first | have GB := hide (Box3.call (Box3.new (x := .int .i64 0) (y := .int .i64 0) (z := .slice none 0 0) _ _ _ rfl) hb) | have GB := hide (Box3.call (Box3.drew (Box3.new (x := .int .i64 0) (y := .int .i64 0) (z := .slice none 0 0) _ _ _ rfl)) hb) | have GB := hide (Box3.call GB.out hb) | skip); first | have HOA := hide (Own.below HOA.out hb) | have HOA := hide (Own.below (Own.alloc HOA.out _) hb); clear ho hh)
            | (go_at_call 30; (with_reducible refine (CS.out _ _ _ _ _ (Own.sl2 (by first | exact HOA.out | exact Own.alloc HOA.out _)) (Own.sl2 (by first | exact HOB.out | exact Own.alloc HOB.out _))).mono ?_); rintro e w1 ⟨s0, rfl, ho, hb⟩; have hz := hb.size; (try simp only [World.size_alloc, World.size_setCell, World.size_drew, size_drewN] at hz ho); obtain ⟨A0, z0, rfl, _⟩ := Own.sl ho; have hlo := Own.lt ho; have HO := hide ho; (first | have GB := hide (Box3.call (Box3.new (x := .int .i64 0) (y := .int .i64 0) (z := .slice none 0 0) _ _ _ rfl) hb) | have GB := hide (Box3.call (Box3.drew (Box3.new (x := .int .i64 0) (y := .int .i64 0) (z := .slice none 0 0) _ _ _ rfl)) hb) | have GB := hide (Box3.call GB.out hb) | skip); (try obtain ⟨⟨g0, g1, g2⟩, f0, f1, f2⟩ := GB.out); clear ho))
        all_goals (have hh := (‹_ ∧ _ ∧ _ ∧ _ ∧ _ ∧ _ ∧ Below w2.heap.size w2 _›).2.2.2.2.2.2; have HH := hide hh; clear hh KS)
        all_goals go_wp2_with fail
        all_goals go_meet
        all_goals (refine ⟨_, A0, z0, rfl, rfl, by omega, ?_, ?_, HH.out⟩)
        all_goals first
          | (with_reducible exact Box3.stored GB.out _ _ _)
          | (with_reducible exact Box3.new _ _ _ rfl)
          | (with_reducible refine Own.mono (Own.alloc HO.out _) ?_; omega)
          | (with_reducible refine Own.mono (Own.set (Own.set (Own.set HO.out (own_nl hlo ?_) _) (own_nl hlo ?_) _) (own_nl hlo ?_) _) ?_ <;> first | omega | (dsimp only; omega))
      case rest =>
        obtain ⟨g, A0, z0, rfl, rfl, hg, kg, ho, hB⟩ := hcut
        have hz := hB.size
        have hgl := kg.lt
        have O1 := hide ho
        have hl1 := Own.lt ho
        have j0 := hide (k0.out.call hB)
        have j1 := hide (k1.out.call hB)
        have HWc := hide (kb_call hW2 (by omega) hB)
        obtain ⟨⟨a0, a1, a2⟩, _⟩ := j0.out
        obtain ⟨⟨b0, b1, b2⟩, _⟩ := j1.out
        clear k0 k1 ho hB
        have k0 := j0
        have k1 := j1
        have kgh := hide kg
        clear j0 j1 kg
        have kg := kgh
        clear kgh
        have q1 : w.heap.size + 1 < wc.heap.size := by omega
        have p1 : w.heap.size < wc.heap.size := by omega
        go_wp2_with fail
        refine (toMatrix r c A p xs _ (SlI.below HA.out HWc.out) hn).mono ?_; rintro e w5 ⟨rfl, ho, hb⟩; obtain ⟨hc, hf⟩ := bcell hb; have hz := hb.size; (try simp only [World.size_alloc, World.size_setCell, World.size_drew, size_drewN] at hz); (first | have hs := up3 hz | have hs := up2 hz | have hs := up1 hz | have hs := up0 hz); (try have q10 := hs _ q9); (try have q9 := hs _ q8); (try have q8 := hs _ q7); (try have q7 := hs _ q6); (try have q6 := hs _ q5); (try have q5 := hs _ q4); (try have q4 := hs _ q3); (try have q3 := hs _ q2); (try have q2 := hs _ q1); (try have p7 := hs _ p6); (try have p6 := hs _ p5); (try have p5 := hs _ p4); (try have p4 := hs _ p3); (try have p3 := hs _ p2); (try have p2 := hs _ p1); (try have q1 := new1 hz); (try have p1 := new2 hz); (try have r1 := new3 hz); (try simp only [World.size_alloc, World.size_setCell, World.size_drew, size_drewN] at ho)
        have v2 := (Own.lt ho _ rfl).2
        have H1 := hide ho; clear ho
        go_wp2_with fail
        have hWc := HWc.out
        refine (toMatrix r' c' B q ys _ (SlI.below HB.out (by repeat' (first | exact Below.refl _ _ | (refine Below.alloc ?_ ?_ _) | (refine Below.setCell ?_ ?_ _) | (refine Below.drew ?_) | (refine below_drewN ?_ _) | (refine Below.trans ?_ (Below.mono (by assumption) ?_)) | omega | (simp only [World.size_alloc, World.size_setCell, World.size_drew, size_drewN]; omega)))) hn').mono ?_; rintro e w6 ⟨rfl, ho, hb⟩; obtain ⟨hc, hf⟩ := bcell hb; have hz := hb.size; (try simp only [World.size_alloc, World.size_setCell, World.size_drew, size_drewN] at hz); (first | have hs := up3 hz | have hs := up2 hz | have hs := up1 hz | have hs := up0 hz); (try have q10 := hs _ q9); (try have q9 := hs _ q8); (try have q8 := hs _ q7); (try have q7 := hs _ q6); (try have q6 := hs _ q5); (try have q5 := hs _ q4); (try have q4 := hs _ q3); (try have q3 := hs _ q2); (try have q2 := hs _ q1); (try have p7 := hs _ p6); (try have p6 := hs _ p5); (try have p5 := hs _ p4); (try have p4 := hs _ p3); (try have p3 := hs _ p2); (try have p2 := hs _ p1); (try have q1 := new1 hz); (try have p1 := new2 hz); (try have r1 := new3 hz); (try simp only [World.size_alloc, World.size_setCell, World.size_drew, size_drewN] at ho)
        have v3 := (Own.lt ho _ rfl).2
        have H2 := hide ho; clear ho
        go_wp2_with fail
        refine (CI.out _ _ _ _ _ (Own.sl2 (Own.below H1.out (by repeat' (first | exact Below.refl _ _ | (refine Below.alloc ?_ ?_ _) | (refine Below.setCell ?_ ?_ _) | (refine Below.drew ?_) | (refine below_drewN ?_ _) | (refine Below.trans ?_ (Below.mono (by assumption) ?_)) | omega | (simp only [World.size_alloc, World.size_setCell, World.size_drew, size_drewN]; omega))))) (Own.sl2 (Own.below H2.out (by repeat' (first | exact Below.refl _ _ | (refine Below.alloc ?_ ?_ _) | (refine Below.setCell ?_ ?_ _) | (refine Below.drew ?_) | (refine below_drewN ?_ _) | (refine Below.trans ?_ (Below.mono (by assumption) ?_)) | omega | (simp only [World.size_alloc, World.size_setCell, World.size_drew, size_drewN]; omega)))))).mono ?_; rintro e w7 ⟨s1, rfl, ho, hb⟩; obtain ⟨hc, hf⟩ := bcell hb; have hz := hb.size; (try simp only [World.size_alloc, World.size_setCell, World.size_drew, size_drewN] at hz); (first | have hs := up3 hz | have hs := up2 hz | have hs := up1 hz | have hs := up0 hz); (try have q10 := hs _ q9); (try have q9 := hs _ q8); (try have q8 := hs _ q7); (try have q7 := hs _ q6); (try have q6 := hs _ q5); (try have q5 := hs _ q4); (try have q4 := hs _ q3); (try have q3 := hs _ q2); (try have q2 := hs _ q1); (try have p7 := hs _ p6); (try have p6 := hs _ p5); (try have p5 := hs _ p4); (try have p4 := hs _ p3); (try have p3 := hs _ p2); (try have p2 := hs _ p1); (try have q1 := new1 hz); (try have p1 := new2 hz); (try have r1 := new3 hz); (try simp only [World.size_alloc, World.size_setCell, World.size_drew, size_drewN] at ho); obtain ⟨A1, z1, rfl, _⟩ := Own.sl ho
        have v4 : w6.heap.size < w7.heap.size := by omega
        have O2 := hide ho; clear ho
        have hgc : w7.cell? ⟨g, 0, none⟩ = some (.int .i64 R) ∧ w7.cell? ⟨g, 1, none⟩ = some (.int .i64 C) ∧ w7.cell? ⟨g, 2, none⟩ = some (.slice A0 XS.length z0) := by
          have kg := kg.out
          have h7 : Box3 w7 g (.int .i64 R) (.int .i64 C) (.slice A0 XS.length z0) := (by repeat' (first | with_reducible assumption | (with_reducible refine Box3.set ?_ ?_ _) | (with_reducible refine Box3.drew ?_) | (with_reducible refine Box3.drewN ?_ _) | (with_reducible exact Box3.new _ _ _ (by first | rfl | (simp only [World.size_alloc]; done) | (simp only [World.size_alloc]; omega))) | (with_reducible refine Box3.alloc ?_ _) | (with_reducible refine Box3.call ?_ (by assumption)) | (with_reducible refine Box3.grown ?_ (by assumption) (by simp; omega)) | omega | (dsimp only; omega) | (simp only [World.size_alloc, World.size_setCell, World.size_drew, size_drewN]; omega)))
          exact h7.1
        obtain ⟨g0, g1, g2⟩ := hgc
        have hg7 : g < w7.heap.size := World.block_lt_of_cell? _ ⟨g, 0, none⟩ g0
        go_wp2_with fail
        refine (eqMatrix_own R C _ _ _ _ XS _ (Own.below O2.out (by repeat' (first | exact Below.refl _ _ | (refine Below.alloc ?_ ?_ _) | (refine Below.setCell ?_ ?_ _) | (refine Below.drew ?_) | (refine below_drewN ?_ _) | (refine Below.trans ?_ (Below.mono (by assumption) ?_)) | omega | (simp only [World.size_alloc, World.size_setCell, World.size_drew, size_drewN]; omega)))) (Own.below O1.out (by repeat' (first | exact Below.refl _ _ | (refine Below.alloc ?_ ?_ _) | (refine Below.setCell ?_ ?_ _) | (refine Below.drew ?_) | (refine below_drewN ?_ _) | (refine Below.trans ?_ (Below.mono (by assumption) ?_)) | omega | (simp only [World.size_alloc, World.size_setCell, World.size_drew, size_drewN]; omega)))) (by omega)).mono ?_; rintro e w8 ⟨rfl, hb⟩; obtain ⟨hc, hf⟩ := bcell hb; have hz := hb.size; (try simp only [World.size_alloc, World.size_setCell, World.size_drew, size_drewN] at hz); (first | have hs := up3 hz | have hs := up2 hz | have hs := up1 hz | have hs := up0 hz); (try have q10 := hs _ q9); (try have q9 := hs _ q8); (try have q8 := hs _ q7); (try have q7 := hs _ q6); (try have q6 := hs _ q5); (try have q5 := hs _ q4); (try have q4 := hs _ q3); (try have q3 := hs _ q2); (try have q2 := hs _ q1); (try have p7 := hs _ p6); (try have p6 := hs _ p5); (try have p5 := hs _ p4); (try have p4 := hs _ p3); (try have p3 := hs _ p2); (try have p2 := hs _ p1); (try have q1 := new1 hz); (try have p1 := new2 hz); (try have r1 := new3 hz)
        have hl2 := Own.lt O2.out
        have k0o := k0.out
        have k1o := k1.out
        have kgo := kg.out
        have c0 : Box3 w8 w.heap.size (.int .i64 r) (.int .i64 c) (.slice A xs.length p) := (by repeat' (first | with_reducible assumption | (with_reducible refine Box3.set ?_ ?_ _) | (with_reducible refine Box3.drew ?_) | (with_reducible refine Box3.drewN ?_ _) | (with_reducible exact Box3.new _ _ _ (by first | rfl | (simp only [World.size_alloc]; done) | (simp only [World.size_alloc]; omega))) | (with_reducible refine Box3.alloc ?_ _) | (with_reducible refine Box3.call ?_ (by assumption)) | (with_reducible refine Box3.grown ?_ (by assumption) (by simp; omega)) | omega | (dsimp only; omega) | (simp only [World.size_alloc, World.size_setCell, World.size_drew, size_drewN]; omega)))
        have c1 : Box3 w8 (w.heap.size + 1) (.int .i64 r') (.int .i64 c') (.slice B ys.length q) := (by repeat' (first | with_reducible assumption | (with_reducible refine Box3.set ?_ ?_ _) | (with_reducible refine Box3.drew ?_) | (with_reducible refine Box3.drewN ?_ _) | (with_reducible exact Box3.new _ _ _ (by first | rfl | (simp only [World.size_alloc]; done) | (simp only [World.size_alloc]; omega))) | (with_reducible refine Box3.alloc ?_ _) | (with_reducible refine Box3.call ?_ (by assumption)) | (with_reducible refine Box3.grown ?_ (by assumption) (by simp; omega)) | omega | (dsimp only; omega) | (simp only [World.size_alloc, World.size_setCell, World.size_drew, size_drewN]; omega)))
        have c2 : Box3 w8 g (.int .i64 R) (.int .i64 C) (.slice A0 XS.length z0) := (by repeat' (first | with_reducible assumption | (with_reducible refine Box3.set ?_ ?_ _) | (with_reducible refine Box3.drew ?_) | (with_reducible refine Box3.drewN ?_ _) | (with_reducible exact Box3.new _ _ _ (by first | rfl | (simp only [World.size_alloc]; done) | (simp only [World.size_alloc]; omega))) | (with_reducible refine Box3.alloc ?_ _) | (with_reducible refine Box3.call ?_ (by assumption)) | (with_reducible refine Box3.grown ?_ (by assumption) (by simp; omega)) | omega | (dsimp only; omega) | (simp only [World.size_alloc, World.size_setCell, World.size_drew, size_drewN]; omega)))
        have c3 : Box3 w8 w5.heap.size (.int .i64 r) (.int .i64 c) (.slice (some ⟨wc.heap.size + 3, 0, none⟩) xs.length xs.length) := (by repeat' (first | with_reducible assumption | (with_reducible refine Box3.set ?_ ?_ _) | (with_reducible refine Box3.drew ?_) | (with_reducible refine Box3.drewN ?_ _) | (with_reducible exact Box3.new _ _ _ (by first | rfl | (simp only [World.size_alloc]; done) | (simp only [World.size_alloc]; omega))) | (with_reducible refine Box3.alloc ?_ _) | (with_reducible refine Box3.call ?_ (by assumption)) | (with_reducible refine Box3.grown ?_ (by assumption) (by simp; omega)) | omega | (dsimp only; omega) | (simp only [World.size_alloc, World.size_setCell, World.size_drew, size_drewN]; omega)))
        have c4 : Box3 w8 w6.heap.size (.int .i64 r') (.int .i64 c') (.slice (some ⟨w5.heap.size + 1 + 3, 0, none⟩) ys.length ys.length) := (by repeat' (first | with_reducible assumption | (with_reducible refine Box3.set ?_ ?_ _) | (with_reducible refine Box3.drew ?_) | (with_reducible refine Box3.drewN ?_ _) | (with_reducible exact Box3.new _ _ _ (by first | rfl | (simp only [World.size_alloc]; done) | (simp only [World.size_alloc]; omega))) | (with_reducible refine Box3.alloc ?_ _) | (with_reducible refine Box3.call ?_ (by assumption)) | (with_reducible refine Box3.grown ?_ (by assumption) (by simp; omega)) | omega | (dsimp only; omega) | (simp only [World.size_alloc, World.size_setCell, World.size_drew, size_drewN]; omega)))
        have c5 : Box3 w8 w7.heap.size (.int .i64 R) (.int .i64 C) (.slice A1 XS.length z1) := (by repeat' (first | with_reducible assumption | (with_reducible refine Box3.set ?_ ?_ _) | (with_reducible refine Box3.drew ?_) | (with_reducible refine Box3.drewN ?_ _) | (with_reducible exact Box3.new _ _ _ (by first | rfl | (simp only [World.size_alloc]; done) | (simp only [World.size_alloc]; omega))) | (with_reducible refine Box3.alloc ?_ _) | (with_reducible refine Box3.call ?_ (by assumption)) | (with_reducible refine Box3.grown ?_ (by assumption) (by simp; omega)) | omega | (dsimp only; omega) | (simp only [World.size_alloc, World.size_setCell, World.size_drew, size_drewN]; omega)))
        have o1 : Own w8 w2.heap.size (.slice A0 XS.length z0) XS := (Own.below O1.out (by repeat' (first | exact Below.refl _ _ | (refine Below.alloc ?_ ?_ _) | (refine Below.setCell ?_ ?_ _) | (refine Below.drew ?_) | (refine below_drewN ?_ _) | (refine Below.trans ?_ (Below.mono (by assumption) ?_)) | omega | (simp only [World.size_alloc, World.size_setCell, World.size_drew, size_drewN]; omega))))
        have o2 : Own w8 (w6.heap.size + 1) (.slice A1 XS.length z1) XS := Own.mono ((Own.below O2.out (by repeat' (first | exact Below.refl _ _ | (refine Below.alloc ?_ ?_ _) | (refine Below.setCell ?_ ?_ _) | (refine Below.drew ?_) | (refine below_drewN ?_ _) | (refine Below.trans ?_ (Below.mono (by assumption) ?_)) | omega | (simp only [World.size_alloc, World.size_setCell, World.size_drew, size_drewN]; omega))))) (by first | omega | (simp only [World.size_alloc]; omega))
        have h1 : Own w8 wc.heap.size (.slice (some ⟨wc.heap.size + 3, 0, none⟩) xs.length xs.length) xs := (Own.below H1.out (by repeat' (first | exact Below.refl _ _ | (refine Below.alloc ?_ ?_ _) | (refine Below.setCell ?_ ?_ _) | (refine Below.drew ?_) | (refine below_drewN ?_ _) | (refine Below.trans ?_ (Below.mono (by assumption) ?_)) | omega | (simp only [World.size_alloc, World.size_setCell, World.size_drew, size_drewN]; omega))))
        have h2 : Own w8 (w5.heap.size + 1) (.slice (some ⟨w5.heap.size + 1 + 3, 0, none⟩) ys.length ys.length) ys := Own.mono ((Own.below H2.out (by repeat' (first | exact Below.refl _ _ | (refine Below.alloc ?_ ?_ _) | (refine Below.setCell ?_ ?_ _) | (refine Below.drew ?_) | (refine below_drewN ?_ _) | (refine Below.trans ?_ (Below.mono (by assumption) ?_)) | omega | (simp only [World.size_alloc, World.size_setCell, World.size_drew, size_drewN]; omega))))) (by first | omega | (simp only [World.size_alloc]; omega))
        have HW8 : Hid (Below w.heap.size w w8) := (by repeat' (first | exact Below.refl _ _ | (refine Below.alloc ?_ ?_ _) | (refine Below.setCell ?_ ?_ _) | (refine Below.drew ?_) | (refine below_drewN ?_ _) | (refine Below.trans ?_ (Below.mono (by assumption) ?_)) | omega | (simp only [World.size_alloc, World.size_setCell, World.size_drew, size_drewN]; omega)))
        (try rw [World.size_alloc] at hl2)
        have v5 := c5.lt
        clear hc hf hs hb hz O1 O2 H1 H2 k0 k1 kg k0o k1o kgo a0 a1 a2 b0 b1 b2 g0 g1 g2 hWc HWc
        have k0 := hide c0
        have k1 := hide c1
        have k2 := hide c2
        have k3 := hide c3
        have k4 := hide c4
        have k5 := hide c5
        have O1 := hide o1
        have O2 := hide o2
        have H1 := hide h1
        have H2 := hide h2
        have HA8 := hide (SlI.below HA.out HW8.out)
        have HB8 := hide (SlI.below HB.out HW8.out)
        clear c1 c2 c4 c5 o1 o2 h1 h2
        obtain ⟨⟨a0, a1, a2⟩, _⟩ := c0
        obtain ⟨⟨d0, d1, d2⟩, _⟩ := c3
        go_wp2_with fail
        go_region_held3 (fun w' => w'.cell? ⟨w.heap.size, 0, none⟩ = some (.int .i64 r) ∧ w'.cell? ⟨w.heap.size, 1, none⟩ = some (.int .i64 c) ∧ w'.cell? ⟨w.heap.size, 2, none⟩ = some (.slice A xs.length p) ∧ w'.cell? ⟨w5.heap.size, 0, none⟩ = some (.int .i64 r) ∧ w'.cell? ⟨w5.heap.size, 1, none⟩ = some (.int .i64 c) ∧ w'.cell? ⟨w5.heap.size, 2, none⟩ = some (.slice (some ⟨wc.heap.size + 3, 0, none⟩) xs.length xs.length) ∧ Below w8.heap.size w8 w')
          (first
            | exact kc6_call (by assumption) (by assumption)
            | (refine ⟨?_, ?_, ?_, ?_, ?_, ?_, ?_⟩ <;> first | assumption | (go_simp; done) | exact (by repeat' (first | exact Below.refl _ _ | (refine Below.alloc ?_ ?_ _) | (refine Below.setCell ?_ ?_ _) | (refine Below.drew ?_) | (refine below_drewN ?_ _) | (refine Below.trans ?_ (Below.mono (by assumption) ?_)) | omega | (simp only [World.size_alloc, World.size_setCell, World.size_drew, size_drewN]; omega)))))
          (first
            | (go_at_call 12; refine (toMatrix r c A p xs _ (SlI.below HA8.out (by repeat' (first | exact Below.refl _ _ | (refine Below.alloc ?_ ?_ _) | (refine Below.setCell ?_ ?_ _) | (refine Below.drew ?_) | (refine below_drewN ?_ _) | (refine Below.trans ?_ (Below.mono (by assumption) ?_)) | omega | (simp only [World.size_alloc, World.size_setCell, World.size_drew, size_drewN]; omega)))) hn).mono ?_; rintro e w9 ⟨rfl, ho, hb⟩; obtain ⟨hc, hf⟩ := bcell hb; have hz := hb.size; (try simp only [World.size_alloc, World.size_setCell, World.size_drew, size_drewN] at hz); (first | have hs := up3 hz | have hs := up2 hz | have hs := up1 hz | have hs := up0 hz); (try have q10 := hs _ q9); (try have q9 := hs _ q8); (try have q8 := hs _ q7); (try have q7 := hs _ q6); (try have q6 := hs _ q5); (try have q5 := hs _ q4); (try have q4 := hs _ q3); (try have q3 := hs _ q2); (try have q2 := hs _ q1); (try have p7 := hs _ p6); (try have p6 := hs _ p5); (try have p5 := hs _ p4); (try have p4 := hs _ p3); (try have p3 := hs _ p2); (try have p2 := hs _ p1); (try have q1 := new1 hz); (try have p1 := new2 hz); (try have r1 := new3 hz); (try simp only [World.size_alloc, World.size_setCell, World.size_drew, size_drewN] at ho); have H3 := hide ho; clear ho)
            | (go_at_call 14; refine (eqMatrix_same r c _ _ _ _ xs _ (SlI.below (Own.reads H1.out).2 (by repeat' (first | exact Below.refl _ _ | (refine Below.alloc ?_ ?_ _) | (refine Below.setCell ?_ ?_ _) | (refine Below.drew ?_) | (refine below_drewN ?_ _) | (refine Below.trans ?_ (Below.mono (by assumption) ?_)) | omega | (simp only [World.size_alloc, World.size_setCell, World.size_drew, size_drewN]; omega)))) (SlI.below (Own.reads H3.out).2 (by repeat' (first | exact Below.refl _ _ | (refine Below.alloc ?_ ?_ _) | (refine Below.setCell ?_ ?_ _) | (refine Below.drew ?_) | (refine below_drewN ?_ _) | (refine Below.trans ?_ (Below.mono (by assumption) ?_)) | omega | (simp only [World.size_alloc, World.size_setCell, World.size_drew, size_drewN]; omega)))) hn).mono ?_; rintro e w10 ⟨rfl, hb⟩; obtain ⟨hc, hf⟩ := bcell hb; have hz := hb.size; (try simp only [World.size_alloc, World.size_setCell, World.size_drew, size_drewN] at hz); (first | have hs := up3 hz | have hs := up2 hz | have hs := up1 hz | have hs := up0 hz); (try have q10 := hs _ q9); (try have q9 := hs _ q8); (try have q8 := hs _ q7); (try have q7 := hs _ q6); (try have q6 := hs _ q5); (try have q5 := hs _ q4); (try have q4 := hs _ q3); (try have q3 := hs _ q2); (try have q2 := hs _ q1); (try have p7 := hs _ p6); (try have p6 := hs _ p5); (try have p5 := hs _ p4); (try have p4 := hs _ p3); (try have p3 := hs _ p2); (try have p2 := hs _ p1); (try have q1 := new1 hz); (try have p1 := new2 hz); (try have r1 := new3 hz)))
        obtain ⟨_, _, _, _, _, _, hB10⟩ := ‹_ ∧ _ ∧ _ ∧ _ ∧ _ ∧ _ ∧ Below w8.heap.size w8 w10›
        clear hc hf hs hb hz a0 a1 a2 d0 d1 d2 H3
        have hz10 := hB10.size
        have j0 := k1.out.call hB10
        have j1 := k4.out.call hB10
        obtain ⟨⟨b0, b1, b2⟩, _⟩ := j0
        obtain ⟨⟨d0, d1, d2⟩, _⟩ := j1
        have HB10 := hide hB10
        have HBB := hide (SlI.below HB8.out hB10)
        have H2b := hide (H2.out.below hB10)
        clear hB10
        go_wp2_with fail
        go_region_held3 (fun w' => w'.cell? ⟨w.heap.size + 1, 0, none⟩ = some (.int .i64 r') ∧ w'.cell? ⟨w.heap.size + 1, 1, none⟩ = some (.int .i64 c') ∧ w'.cell? ⟨w.heap.size + 1, 2, none⟩ = some (.slice B ys.length q) ∧ w'.cell? ⟨w6.heap.size, 0, none⟩ = some (.int .i64 r') ∧ w'.cell? ⟨w6.heap.size, 1, none⟩ = some (.int .i64 c') ∧ w'.cell? ⟨w6.heap.size, 2, none⟩ = some (.slice (some ⟨w5.heap.size + 1 + 3, 0, none⟩) ys.length ys.length) ∧ Below w10.heap.size w10 w')
          (first
            | exact kc6_call (by assumption) (by assumption)
            | (refine ⟨?_, ?_, ?_, ?_, ?_, ?_, ?_⟩ <;> first | assumption | (go_simp; done) | exact (by repeat' (first | exact Below.refl _ _ | (refine Below.alloc ?_ ?_ _) | (refine Below.setCell ?_ ?_ _) | (refine Below.drew ?_) | (refine below_drewN ?_ _) | (refine Below.trans ?_ (Below.mono (by assumption) ?_)) | omega | (simp only [World.size_alloc, World.size_setCell, World.size_drew, size_drewN]; omega)))))
          (first
            | (go_at_call 12; refine (toMatrix r' c' B q ys _ (SlI.below HBB.out (by repeat' (first | exact Below.refl _ _ | (refine Below.alloc ?_ ?_ _) | (refine Below.setCell ?_ ?_ _) | (refine Below.drew ?_) | (refine below_drewN ?_ _) | (refine Below.trans ?_ (Below.mono (by assumption) ?_)) | omega | (simp only [World.size_alloc, World.size_setCell, World.size_drew, size_drewN]; omega)))) hn').mono ?_; rintro e w11 ⟨rfl, ho, hb⟩; obtain ⟨hc, hf⟩ := bcell hb; have hz := hb.size; (try simp only [World.size_alloc, World.size_setCell, World.size_drew, size_drewN] at hz); (first | have hs := up3 hz | have hs := up2 hz | have hs := up1 hz | have hs := up0 hz); (try have q10 := hs _ q9); (try have q9 := hs _ q8); (try have q8 := hs _ q7); (try have q7 := hs _ q6); (try have q6 := hs _ q5); (try have q5 := hs _ q4); (try have q4 := hs _ q3); (try have q3 := hs _ q2); (try have q2 := hs _ q1); (try have p7 := hs _ p6); (try have p6 := hs _ p5); (try have p5 := hs _ p4); (try have p4 := hs _ p3); (try have p3 := hs _ p2); (try have p2 := hs _ p1); (try have q1 := new1 hz); (try have p1 := new2 hz); (try have r1 := new3 hz); (try simp only [World.size_alloc, World.size_setCell, World.size_drew, size_drewN] at ho); have H3 := hide ho; clear ho)
            | (go_at_call 14; refine (eqMatrix_same r' c' _ _ _ _ ys _ (SlI.below (Own.reads H2b.out).2 (by repeat' (first | exact Below.refl _ _ | (refine Below.alloc ?_ ?_ _) | (refine Below.setCell ?_ ?_ _) | (refine Below.drew ?_) | (refine below_drewN ?_ _) | (refine Below.trans ?_ (Below.mono (by assumption) ?_)) | omega | (simp only [World.size_alloc, World.size_setCell, World.size_drew, size_drewN]; omega)))) (SlI.below (Own.reads H3.out).2 (by repeat' (first | exact Below.refl _ _ | (refine Below.alloc ?_ ?_ _) | (refine Below.setCell ?_ ?_ _) | (refine Below.drew ?_) | (refine below_drewN ?_ _) | (refine Below.trans ?_ (Below.mono (by assumption) ?_)) | omega | (simp only [World.size_alloc, World.size_setCell, World.size_drew, size_drewN]; omega)))) hn').mono ?_; rintro e w12 ⟨rfl, hb⟩; obtain ⟨hc, hf⟩ := bcell hb; have hz := hb.size; (try simp only [World.size_alloc, World.size_setCell, World.size_drew, size_drewN] at hz); (first | have hs := up3 hz | have hs := up2 hz | have hs := up1 hz | have hs := up0 hz); (try have q10 := hs _ q9); (try have q9 := hs _ q8); (try have q8 := hs _ q7); (try have q7 := hs _ q6); (try have q6 := hs _ q5); (try have q5 := hs _ q4); (try have q4 := hs _ q3); (try have q3 := hs _ q2); (try have q2 := hs _ q1); (try have p7 := hs _ p6); (try have p6 := hs _ p5); (try have p5 := hs _ p4); (try have p4 := hs _ p3); (try have p3 := hs _ p2); (try have p2 := hs _ p1); (try have q1 := new1 hz); (try have p1 := new2 hz); (try have r1 := new3 hz)))
        obtain ⟨_, _, _, _, _, _, hB12⟩ := ‹_ ∧ _ ∧ _ ∧ _ ∧ _ ∧ _ ∧ Below w10.heap.size w10 w12›
        clear hc hf hs hb hz b0 b1 b2 d0 d1 d2 H3 HBB H2b HB8 HA8
        have hz12 := hB12.size
        have HBx := hide (HB10.out.trans (hB12.mono hz10))
        clear hB12 HB10
        -- all known things at w12
        have c3 := hide (k3.out.call HBx.out)
        have c4 := hide (k4.out.call HBx.out)
        obtain ⟨⟨d0, d1, d2⟩, _⟩ := c3.out
        have hla : ∀ k, (Value.slice (some ⟨wc.heap.size + 3, 0, none⟩) xs.length xs.length).ownBlock = some k → wc.heap.size ≤ k ∧ k < w5.heap.size := fun k e => by
          simp only [Value.ownBlock, Option.map_some, Option.some.injEq] at e; omega
        have hlb : ∀ k, (Value.slice (some ⟨w5.heap.size + 1 + 3, 0, none⟩) ys.length ys.length).ownBlock = some k → w5.heap.size + 1 ≤ k ∧ k < w6.heap.size := fun k e => by
          simp only [Value.ownBlock, Option.map_some, Option.some.injEq] at e; omega
        go_wp2_with fail
        refine (markMatrix r c _ _ xs 1 _ (H1.out.below HBx.out) (by omega) (by omega) (by omega)).mono ?_; rintro e w13 ⟨rfl, ho, hg⟩
        clear ho
        have hz13 := hg.size
        have hn0 : ∀ b, b < wc.heap.size ∨ w5.heap.size ≤ b → some b ≠ (Value.slice (some ⟨wc.heap.size + 3, 0, none⟩) xs.length xs.length).ownBlock := fun b hb e => by have := hla _ e.symm; omega
        have m0 := hide ((k0.out.call HBx.out).grown hg (hn0 _ (by omega)))
        have m1 := hide ((k1.out.call HBx.out).grown hg (hn0 _ (by omega)))
        have m2 := hide ((k2.out.call HBx.out).grown hg (hn0 _ (by omega)))
        have m4 := hide (c4.out.grown hg (hn0 _ (by omega)))
        have m5 := hide ((k5.out.call HBx.out).grown hg (hn0 _ (by omega)))
        have P1 := hide (keepS hg hla (O1.out.below HBx.out) hl1 (by omega))
        have P2 := hide (keepS hg hla (O2.out.below HBx.out) hl2 (by omega))
        have P3 := hide (keepS hg hla (H2.out.below HBx.out) hlb (by omega))
        have hB13 := hide (below_mark (HW8.out.trans (HBx.out.mono (by omega))) hg hla (by omega) (by omega))
        clear hg hn0 d0 d1 d2 c3 c4 k0 k1 k2 k3 k4 k5 O1 O2 H1 H2 HBx HW8
        obtain ⟨⟨d0, d1, d2⟩, _⟩ := m4.out
        go_wp2_with fail
        refine (markMatrix r' c' _ _ ys (1 + (xs.length : Int)) _ P3.out (by omega) (by omega) (by omega)).mono ?_; rintro e w14 ⟨rfl, ho, hg⟩
        clear ho
        have hz14 := hg.size
        have hn0 : ∀ b, b < w5.heap.size + 1 ∨ w6.heap.size ≤ b → some b ≠ (Value.slice (some ⟨w5.heap.size + 1 + 3, 0, none⟩) ys.length ys.length).ownBlock := fun b hb e => by have := hlb _ e.symm; omega
        have k0 := hide (m0.out.grown hg (hn0 _ (by omega)))
        have k1 := hide (m1.out.grown hg (hn0 _ (by omega)))
        have k2 := hide (m2.out.grown hg (hn0 _ (by omega)))
        have k5 := hide (m5.out.grown hg (hn0 _ (by omega)))
        have O1 := hide (keepS hg hlb P1.out hl1 (by omega))
        have O2 := hide (keepS hg hlb P2.out hl2 (by omega))
        have hB14 := hide (below_mark hB13.out hg hlb (by omega) (by omega))
        clear hg hn0 d0 d1 d2 m0 m1 m2 m4 m5 P1 P2 P3 hB13
        obtain ⟨⟨i0, i1, i2⟩, _⟩ := k2.out
        obtain ⟨⟨j0, j1, j2⟩, _⟩ := k5.out
        go_wp2_with fail
        refine (eqMatrix_own R C _ _ _ _ XS _ O2.out O1.out (by omega)).mono ?_; rintro e w15 ⟨rfl, hb⟩
        have hz15 := hb.size
        have m0 := hide (k0.out.call hb)
        have m1 := hide (k1.out.call hb)
        have m2 := hide (k2.out.call hb)
        have m5 := hide (k5.out.call hb)
        have P1 := hide (O1.out.below hb)
        have P2 := hide (O2.out.below hb)
        have hB15 := hide (hB14.out.trans (hb.mono (by omega)))
        clear k0 k1 k2 k5 O1 O2 hB14 hb i0 i1 i2 j0 j1 j2
        obtain ⟨⟨j0, j1, j2⟩, _⟩ := m5.out
        go_wp2_with fail
        refine (markMatrix R C _ _ XS 1 _ P2.out (by omega) (by omega) (by omega)).mono ?_; rintro e w16 ⟨rfl, ho, hg⟩
        have hz16 := hg.size
        have hn0 : ∀ b, b < w6.heap.size + 1 ∨ w7.heap.size ≤ b → some b ≠ (Value.slice A1 XS.length z1).ownBlock := fun b hb e => by have := hl2 _ e.symm; omega
        have k0 := hide (m0.out.grown hg (hn0 _ (by omega)))
        have k1 := hide (m1.out.grown hg (hn0 _ (by omega)))
        have k2 := hide (m2.out.grown hg (hn0 _ (by omega)))
        have k5 := hide (m5.out.grown hg (hn0 _ (by omega)))
        have O1 := hide (keepS hg hl2 P1.out hl1 (by omega))
        have O2 := hide ho
        have hB16 := hide (below_mark hB15.out hg hl2 (by omega) (by omega))
        clear hg ho hn0 j0 j1 j2 m0 m1 m2 m5 P1 P2 hB15
        obtain ⟨⟨j0, j1, j2⟩, _⟩ := k5.out
        have eM : ((1 + (XS.length : Int)) != (1 + (XS.length : Int))) = false := by simp
        go_wp2_with fail
        refine (heldMatrix_own R C _ _ 1 XS.length _ O2.out (by omega) (by omega) (by omega)).mono ?_; rintro e w17 ⟨rfl, hb⟩
        have hz17 := hb.size
        have m0 := hide (k0.out.call hb)
        have m1 := hide (k1.out.call hb)
        have m2 := hide (k2.out.call hb)
        have m5 := hide (k5.out.call hb)
        have P1 := hide (O1.out.below hb)
        have P2 := hide (O2.out.below hb)
        have hB17 := hB16.out.trans (hb.mono (by omega))
        clear k0 k1 k2 k5 O1 O2 hB16 hb j0 j1 j2
        have HA17 := hide (SlI.below HA.out hB17)
        have HB17 := hide (SlI.below HB.out hB17)
        have hB17h := hide hB17
        clear HA HB hB17
        have HA := HA17
        have HB := HB17
        clear HA17 HB17
        have t0 : w.heap.size < w17.heap.size := by omega
        have t1 : w.heap.size + 1 < w17.heap.size := by omega
        go_wp2_with fail
        go_cut [15, 16] (fun s6 s7 wx => ∃ (g : Nat) (A0 : Option Addr) (z0 : Nat), s6 = .pointer (some ⟨g, 0, none⟩) ∧ s7 = .bool K ∧ w17.heap.size ≤ g ∧ Box3 wx g (.int .i64 R) (.int .i64 C) (.slice A0 XS.length z0) ∧ Own wx w17.heap.size (.slice A0 XS.length z0) XS ∧ Below w17.heap.size w17 wx)
        case first =>
          rename_i K0 hK0 J0 K1 hJ0 hM0
          clear hK0 K0
          (try clear m2)
          (try clear m5)
          (try clear P1)
          (try clear P2)
          (try clear hB17h)
          (try clear CS)
          (try clear eM)
          (try clear eK)
          (try clear hl1)
          (try clear hl2)
          (try clear hla)
          (try clear hlb)
          (try clear hz10)
          (try clear hz12)
          (try clear hz13)
          (try clear hz14)
          (try clear hz15)
          (try clear hz16)
          (try clear hz17)
          (try clear hzc)
          (try clear hW2)
          (try clear hgl)
          (try clear hg)
          (try clear v1)
          (try clear v2)
          (try clear v3)
          (try clear v4)
          (try clear v5)
          (try clear hz)
          (try clear hm)
          (try clear hm')
          (try clear hX')
          have KS : Hid (∀ w', Below w17.heap.size w17 w' → w'.cell? ⟨w.heap.size, 0, none⟩ = some (.int .i64 r) ∧ w'.cell? ⟨w.heap.size, 1, none⟩ = some (.int .i64 c) ∧ w'.cell? ⟨w.heap.size, 2, none⟩ = some (.slice A xs.length p) ∧ w'.cell? ⟨w.heap.size + 1, 0, none⟩ = some (.int .i64 r') ∧ w'.cell? ⟨w.heap.size + 1, 1, none⟩ = some (.int .i64 c') ∧ w'.cell? ⟨w.heap.size + 1, 2, none⟩ = some (.slice B ys.length q) ∧ Below w17.heap.size w17 w') := fun w' h => by
            obtain ⟨⟨x0, x1, x2⟩, _⟩ := m0.out.call h
            obtain ⟨⟨y0, y1, y2⟩, _⟩ := m1.out.call h
            exact ⟨x0, x1, x2, y0, y1, y2, h⟩
          go_region_held3 (fun w' => w'.cell? ⟨w.heap.size, 0, none⟩ = some (.int .i64 r) ∧ w'.cell? ⟨w.heap.size, 1, none⟩ = some (.int .i64 c) ∧ w'.cell? ⟨w.heap.size, 2, none⟩ = some (.slice A xs.length p) ∧ w'.cell? ⟨w.heap.size + 1, 0, none⟩ = some (.int .i64 r') ∧ w'.cell? ⟨w.heap.size + 1, 1, none⟩ = some (.int .i64 c') ∧ w'.cell? ⟨w.heap.size + 1, 2, none⟩ = some (.slice B ys.length q) ∧ Below w17.heap.size w17 w')
            (first
              | (with_reducible exact KS.out _ (Below.drew (Below.refl _ _)))
              | (with_reducible exact KS.out _ (Below.drew (Below.alloc (Below.refl _ _) (Nat.le_refl _) _)))
              | (have hh := (‹_ ∧ _ ∧ _ ∧ _ ∧ _ ∧ _ ∧ Below w17.heap.size w17 _›).2.2.2.2.2.2
                 first
                 | (with_reducible exact KS.out _ (kb_call hh (Nat.le_refl _) hb))
                 | (with_reducible exact KS.out _ (Below.alloc hh hh.size _))
                 | exact KS.out _ (kb_swap hh (by omega))
                 | exact KS.out _ (((hh.setCell (by dsimp only; omega) _).setCell (by dsimp only; omega) _).setCell (by dsimp only; omega) _)))
            (first
              | (go_at_call_of 12 (Value.slice A xs.length p); have hh := (‹_ ∧ _ ∧ _ ∧ _ ∧ _ ∧ _ ∧ Below w17.heap.size w17 _›).2.2.2.2.2.2; (with_reducible refine (toMatrix r c A p xs _ (SlI.below HA.out hh) hn).mono ?_); rintro e w1 ⟨rfl, ho, hb⟩; have hz := hb.size; (try simp only [World.size_alloc, World.size_setCell, World.size_drew, size_drewN] at hz ho); have HOA := hide ho; (first | have GB := hide (Box3.call (Box3.new (x := .int .i64 0) (y := .int .i64 0) (z := .slice none 0 0) _ _ _ rfl) hb) | have GB := hide (Box3.call (Box3.drew (Box3.new (x := .int .i64 0) (y := .int .i64 0) (z := .slice none 0 0) _ _ _ rfl)) hb) | have GB := hide (Box3.call GB.out hb) | skip); clear ho hh)
              | (go_at_call_of 12 (Value.slice B ys.length q); have hh := (‹_ ∧ _ ∧ _ ∧ _ ∧ _ ∧ _ ∧ Below w17.heap.size w17 _›).2.2.2.2.2.2; (with_reducible refine (toMatrix r' c' B q ys _ (SlI.below HB.out hh) hn').mono ?_); rintro e w1 ⟨rfl, ho, hb⟩; have hz := hb.size; (try simp only [World.size_alloc, World.size_setCell, World.size_drew, size_drewN] at hz ho); have HOB := hide ho; (first | have GB := hide (Box3.call (Box3.new (x := .int .i64 0) (y := .int .i64 0) (z := .slice none 0 0) _ _ _ rfl) hb) | have GB := hide (Box3.call (Box3.drew (Box3.new (x := .int .i64 0) (y := .int .i64 0) (z := .slice none 0 0) _ _ _ rfl)) hb) | have GB := hide (Box3.call GB.out hb) | skip); first | have HOA := hide (Own.below HOA.out hb) | have HOA := hide (Own.below (Own.alloc HOA.out _) hb); clear ho hh)
              | (go_at_call 31; (with_reducible refine (CI.out _ _ _ _ _ (Own.sl2 (by first | exact HOA.out | exact Own.alloc HOA.out _)) (Own.sl2 (by first | exact HOB.out | exact Own.alloc HOB.out _))).mono ?_); rintro e w1 ⟨s0, rfl, ho, hb⟩; have hz := hb.size; (try simp only [World.size_alloc, World.size_setCell, World.size_drew, size_drewN] at hz ho); obtain ⟨A0, z0, rfl, _⟩ := Own.sl ho; have hlo := Own.lt ho; have HO := hide ho; (first | have GB := hide (Box3.call (Box3.new (x := .int .i64 0) (y := .int .i64 0) (z := .slice none 0 0) _ _ _ rfl) hb) | have GB := hide (Box3.call (Box3.drew (Box3.new (x := .int .i64 0) (y := .int .i64 0) (z := .slice none 0 0) _ _ _ rfl)) hb) | have GB := hide (Box3.call GB.out hb) | skip); (try obtain ⟨⟨g0, g1, g2⟩, f0, f1, f2⟩ := GB.out); clear ho))
          all_goals (have hh := (‹_ ∧ _ ∧ _ ∧ _ ∧ _ ∧ _ ∧ Below w17.heap.size w17 _›).2.2.2.2.2.2; have HH := hide hh; clear hh KS)
          all_goals go_wp2_with fail
          all_goals go_meet
          all_goals (refine ⟨_, A0, z0, rfl, rfl, by omega, ?_, ?_, HH.out⟩)
          all_goals first
            | (with_reducible exact Box3.stored GB.out _ _ _)
            | (with_reducible exact Box3.new _ _ _ rfl)
            | (with_reducible refine Own.mono (Own.alloc HO.out _) ?_; omega)
            | (with_reducible refine Own.mono (Own.set (Own.set (Own.set HO.out (own_nl hlo ?_) _) (own_nl hlo ?_) _) (own_nl hlo ?_) _) ?_ <;> first | omega | (dsimp only; omega))
        case rest =>
          obtain ⟨g', A2, z2, rfl, rfl, hg', kg', ho, hB⟩ := hcut
          have hB17 := hB17h.out
          have m2c := m2.out.call hB
          have m5c := hide (m5.out.call hB)
          have Q1 := hide (P1.out.below hB)
          have Q2 := hide (P2.out.below hB)
          have Q3 := hide ho
          have hzc := hB.size
          have HBB := hide (hB17.trans (hB.mono (by omega)))
          obtain ⟨⟨i0, i1, i2⟩, _⟩ := m2c
          obtain ⟨⟨n0, n1, n2⟩, _⟩ := kg'
          clear m0 m1 ho hB hB17 hB17h m2 m5 P1 P2
          go_wp2_with fail
          refine (eqMatrix_own R C _ _ _ _ XS _ Q3.out Q1.out (by omega)).mono ?_; rintro e w18 ⟨rfl, hb⟩
          have hz18 := hb.size
          obtain ⟨⟨j0, j1, j2⟩, _⟩ := m5c.out.call hb
          have Q4 := hide (Q2.out.below hb)
          have HBE := hide (HBB.out.trans (hb.mono (by omega)))
          clear hb i0 i1 i2 n0 n1 n2 HBB
          go_wp2_with fail
          refine (heldMatrix_own R C _ _ 1 XS.length _ Q4.out (by omega) (by omega) (by omega)).mono ?_; rintro e w19 ⟨rfl, hb⟩
          have HBF := HBE.out.trans (hb.mono (by omega))
          go_wp2
          go_returns
          exact ⟨rfl, HBF⟩
    · go_enter Try.func9, Try.ntmps9
      go_wp2_with fail
      refine (szMatrix_yes r c A p xs.length 1048576 _ (by omega) (by omega) (by omega)).mono ?_; rintro e w1 ⟨rfl, hb⟩; obtain ⟨hc, hf⟩ := bcell hb; have hz := hb.size; (try simp only [World.size_alloc, World.size_setCell, World.size_drew, size_drewN] at hz); (first | have hs := up3 hz | have hs := up2 hz | have hs := up1 hz | have hs := up0 hz); (try have q10 := hs _ q9); (try have q9 := hs _ q8); (try have q8 := hs _ q7); (try have q7 := hs _ q6); (try have q6 := hs _ q5); (try have q5 := hs _ q4); (try have q4 := hs _ q3); (try have q3 := hs _ q2); (try have q2 := hs _ q1); (try have p7 := hs _ p6); (try have p6 := hs _ p5); (try have p5 := hs _ p4); (try have p4 := hs _ p3); (try have p3 := hs _ p2); (try have p2 := hs _ p1); (try have q1 := new1 hz); (try have p1 := new2 hz); (try have r1 := new3 hz)
      go_wp2_with fail
      refine (szMatrix_no r' c' B q ys.length (1048576 - xs.length) _ (by omega) (by omega) (by omega) (by omega)).mono ?_; rintro e w2 ⟨rfl, hb⟩; obtain ⟨hc, hf⟩ := bcell hb; have hz := hb.size; (try simp only [World.size_alloc, World.size_setCell, World.size_drew, size_drewN] at hz); (first | have hs := up3 hz | have hs := up2 hz | have hs := up1 hz | have hs := up0 hz); (try have q10 := hs _ q9); (try have q9 := hs _ q8); (try have q8 := hs _ q7); (try have q7 := hs _ q6); (try have q6 := hs _ q5); (try have q5 := hs _ q4); (try have q4 := hs _ q3); (try have q3 := hs _ q2); (try have q2 := hs _ q1); (try have p7 := hs _ p6); (try have p6 := hs _ p5); (try have p5 := hs _ p4); (try have p4 := hs _ p3); (try have p3 := hs _ p2); (try have p2 := hs _ p1); (try have q1 := new1 hz); (try have p1 := new2 hz); (try have r1 := new3 hz)
      go_wp2
      go_returns
      exact ⟨rfl, (by repeat' (first | exact Below.refl _ _ | (refine Below.alloc ?_ ?_ _) | (refine Below.setCell ?_ ?_ _) | (refine Below.drew ?_) | (refine below_drewN ?_ _) | (refine Below.trans ?_ (Below.mono (by assumption) ?_)) | omega | (simp only [World.size_alloc, World.size_setCell, World.size_drew, size_drewN]; omega)))⟩
  · go_enter Try.func9, Try.ntmps9
    go_wp2_with (go_at_call 10; refine (szMatrix_no r c A p xs.length 1048576 _ (by omega) (by omega) (by omega) (by omega)).mono ?_; rintro e w1 ⟨rfl, hb⟩)
    go_returns
    exact ⟨rfl, (by repeat' (first | exact Below.refl _ _ | (refine Below.alloc ?_ ?_ _) | (refine Below.setCell ?_ ?_ _) | (refine Below.drew ?_) | (refine below_drewN ?_ _) | (refine Below.trans ?_ (Below.mono (by assumption) ?_)) | omega | (simp only [World.size_alloc, World.size_setCell, World.size_drew, size_drewN]; omega)))⟩
theorem walkFnExactStackRows (r : Int) (_l0 : -9223372036854775808 ≤ r) (_u0 : r ≤ 9223372036854775807) (c : Int) (_l1 : -9223372036854775808 ≤ c) (_u1 : c ≤ 9223372036854775807) (A : Option Addr) (n p : Nat) (xs : List Int)
    (r' : Int) (_l2 : -9223372036854775808 ≤ r') (_u2 : r' ≤ 9223372036854775807) (c' : Int) (_l3 : -9223372036854775808 ≤ c') (_u3 : c' ≤ 9223372036854775807) (B : Option Addr) (m q : Nat) (ys : List Int) (w : World) (hs : SlArg w A n p xs) (hs' : SlArg w B m q ys) :
    Calls Try.prog 9 #[mv r c (.slice A n p), mv r' c' (.slice B m q)] w fun e w' => e = .returned (.bool true) ∧ Below w.heap.size w w' := by
  obtain ⟨rfl, hm, hA⟩ := hs
  obtain ⟨rfl, hm', hB⟩ := hs'
  exact lawFnExactStackRows r c r' c' A B p q xs ys w hA hm hB hm'
end Go.Proofs.Ytgiggeabadlhcaa
