/- The walk of FnExactInverseOf. -/
import Derived.Test.YtchlaebkigmfgaaInvW
import Derived.Test.YtchlaebkigmfgaaRowLib
import Derived.Deep.RegionHeld3
import Derived.Deep.DeepCutAuto
namespace Go.Proofs.Ytchlaebkigmfgaa
open Go.RowKit
set_option linter.unusedSimpArgs false
set_option linter.unusedVariables false
set_option maxHeartbeats 8000000 in
theorem lawFnExactInverseOf (r c : Int) (A : Option Addr) (cap : Nat) (xs : List Int)  (w : World) (hA : SlI w A xs) (hm : xs.length ≤ maxLen) :
    Calls Try.prog 8 #[mv r c (.slice A xs.length cap)] w fun e w' => e = .returned (.bool true) ∧ Below w.heap.size w w' := by
  unfold maxLen at hm
  have HA := hide hA; clear hA
  by_cases hn : xs.length ≤ 1048576
  · have cs := fun A cap w (h : Sl w A xs.length cap xs) => specInv r c A cap xs w h hn
    have ci := fun A cap w (h : Sl w A xs.length cap xs) => implInv r c A cap xs w h hn
    have hX : (invRes r c xs).L.length ≤ 1048576 := InverseOf_len
    obtain ⟨⟨R, C, XS, K⟩, hM⟩ : ∃ m, invRes r c xs = m := ⟨_, rfl⟩
    rw [hM] at cs ci hX
    have CS : Hid (∀ A cap w, Sl w A xs.length cap xs → Calls Try.prog 29 #[mv r c (.slice A xs.length cap)] w (RetMat w R C XS K)) := cs
    have CI : Hid (∀ A cap w, Sl w A xs.length cap xs → Calls Try.prog 30 #[mv r c (.slice A xs.length cap)] w (RetMat w R C XS K)) := ci
    have hX' : XS.length ≤ 1048576 := hX
    have eK : (K != K) = false := by simp
    clear cs ci hX hM
    go_enter Try.func8, Try.ntmps8
    go_wp2_with fail
    refine (szMatrix_yes r c A cap xs.length 1048576 _ (by omega) (by omega) (by omega)).mono ?_; rintro e w1 ⟨rfl, hb⟩; obtain ⟨hc, hf⟩ := bcell hb; have hz := hb.size; (try simp only [World.size_alloc, World.size_setCell, World.size_drew, size_drewN] at hz); (first | have hs := up3 hz | have hs := up2 hz | have hs := up1 hz | have hs := up0 hz); (try have q10 := hs _ q9); (try have q9 := hs _ q8); (try have q8 := hs _ q7); (try have q7 := hs _ q6); (try have q6 := hs _ q5); (try have q5 := hs _ q4); (try have q4 := hs _ q3); (try have q3 := hs _ q2); (try have q2 := hs _ q1); (try have p7 := hs _ p6); (try have p6 := hs _ p5); (try have p5 := hs _ p4); (try have p4 := hs _ p3); (try have p3 := hs _ p2); (try have p2 := hs _ p1); (try have q1 := new1 hz); (try have p1 := new2 hz); (try have r1 := new3 hz)
    go_wp2_with fail
    refine (toMatrix r c A cap xs _ (SlI.below HA.out (by repeat' (first | exact Below.refl _ _ | (refine Below.alloc ?_ ?_ _) | (refine Below.setCell ?_ ?_ _) | (refine Below.drew ?_) | (refine below_drewN ?_ _) | (refine Below.trans ?_ (Below.mono (by assumption) ?_)) | omega | (simp only [World.size_alloc, World.size_setCell, World.size_drew, size_drewN]; omega)))) hn).mono ?_; rintro e w2 ⟨rfl, ho, hb⟩; obtain ⟨hc, hf⟩ := bcell hb; have hz := hb.size; (try simp only [World.size_alloc, World.size_setCell, World.size_drew, size_drewN] at hz); (first | have hs := up3 hz | have hs := up2 hz | have hs := up1 hz | have hs := up0 hz); (try have q10 := hs _ q9); (try have q9 := hs _ q8); (try have q8 := hs _ q7); (try have q7 := hs _ q6); (try have q6 := hs _ q5); (try have q5 := hs _ q4); (try have q4 := hs _ q3); (try have q3 := hs _ q2); (try have q2 := hs _ q1); (try have p7 := hs _ p6); (try have p6 := hs _ p5); (try have p5 := hs _ p4); (try have p4 := hs _ p3); (try have p3 := hs _ p2); (try have p2 := hs _ p1); (try have q1 := new1 hz); (try have p1 := new2 hz); (try have r1 := new3 hz); (try simp only [World.size_alloc, World.size_setCell, World.size_drew, size_drewN] at ho)
    have H1 := hide ho; clear ho
    go_wp2_with fail
    refine (CS.out _ _ _ (Own.sl2 (Own.below H1.out (by repeat' (first | exact Below.refl _ _ | (refine Below.alloc ?_ ?_ _) | (refine Below.setCell ?_ ?_ _) | (refine Below.drew ?_) | (refine below_drewN ?_ _) | (refine Below.trans ?_ (Below.mono (by assumption) ?_)) | omega | (simp only [World.size_alloc, World.size_setCell, World.size_drew, size_drewN]; omega)))))).mono ?_; rintro e w3 ⟨s0, rfl, ho, hb⟩; obtain ⟨hc, hf⟩ := bcell hb; have hz := hb.size; (try simp only [World.size_alloc, World.size_setCell, World.size_drew, size_drewN] at hz); (first | have hs := up3 hz | have hs := up2 hz | have hs := up1 hz | have hs := up0 hz); (try have q10 := hs _ q9); (try have q9 := hs _ q8); (try have q8 := hs _ q7); (try have q7 := hs _ q6); (try have q6 := hs _ q5); (try have q5 := hs _ q4); (try have q4 := hs _ q3); (try have q3 := hs _ q2); (try have q2 := hs _ q1); (try have p7 := hs _ p6); (try have p6 := hs _ p5); (try have p5 := hs _ p4); (try have p4 := hs _ p3); (try have p3 := hs _ p2); (try have p2 := hs _ p1); (try have q1 := new1 hz); (try have p1 := new2 hz); (try have r1 := new3 hz); obtain ⟨A0, z0, rfl, _⟩ := Own.sl ho
    have O1 := hide ho; clear ho
    go_wp2_with fail
    refine (toMatrix r c A cap xs _ (SlI.below HA.out (by repeat' (first | exact Below.refl _ _ | (refine Below.alloc ?_ ?_ _) | (refine Below.setCell ?_ ?_ _) | (refine Below.drew ?_) | (refine below_drewN ?_ _) | (refine Below.trans ?_ (Below.mono (by assumption) ?_)) | omega | (simp only [World.size_alloc, World.size_setCell, World.size_drew, size_drewN]; omega)))) hn).mono ?_; rintro e w4 ⟨rfl, ho, hb⟩; obtain ⟨hc, hf⟩ := bcell hb; have hz := hb.size; (try simp only [World.size_alloc, World.size_setCell, World.size_drew, size_drewN] at hz); (first | have hs := up3 hz | have hs := up2 hz | have hs := up1 hz | have hs := up0 hz); (try have q10 := hs _ q9); (try have q9 := hs _ q8); (try have q8 := hs _ q7); (try have q7 := hs _ q6); (try have q6 := hs _ q5); (try have q5 := hs _ q4); (try have q4 := hs _ q3); (try have q3 := hs _ q2); (try have q2 := hs _ q1); (try have p7 := hs _ p6); (try have p6 := hs _ p5); (try have p5 := hs _ p4); (try have p4 := hs _ p3); (try have p3 := hs _ p2); (try have p2 := hs _ p1); (try have q1 := new1 hz); (try have p1 := new2 hz); (try have r1 := new3 hz); (try simp only [World.size_alloc, World.size_setCell, World.size_drew, size_drewN] at ho)
    have H2 := hide ho; clear ho
    go_wp2_with fail
    refine (CI.out _ _ _ (Own.sl2 (Own.below H2.out (by repeat' (first | exact Below.refl _ _ | (refine Below.alloc ?_ ?_ _) | (refine Below.setCell ?_ ?_ _) | (refine Below.drew ?_) | (refine below_drewN ?_ _) | (refine Below.trans ?_ (Below.mono (by assumption) ?_)) | omega | (simp only [World.size_alloc, World.size_setCell, World.size_drew, size_drewN]; omega)))))).mono ?_; rintro e w5 ⟨s1, rfl, ho, hb⟩; obtain ⟨hc, hf⟩ := bcell hb; have hz := hb.size; (try simp only [World.size_alloc, World.size_setCell, World.size_drew, size_drewN] at hz); (first | have hs := up3 hz | have hs := up2 hz | have hs := up1 hz | have hs := up0 hz); (try have q10 := hs _ q9); (try have q9 := hs _ q8); (try have q8 := hs _ q7); (try have q7 := hs _ q6); (try have q6 := hs _ q5); (try have q5 := hs _ q4); (try have q4 := hs _ q3); (try have q3 := hs _ q2); (try have q2 := hs _ q1); (try have p7 := hs _ p6); (try have p6 := hs _ p5); (try have p5 := hs _ p4); (try have p4 := hs _ p3); (try have p3 := hs _ p2); (try have p2 := hs _ p1); (try have q1 := new1 hz); (try have p1 := new2 hz); (try have r1 := new3 hz); obtain ⟨A1, z1, rfl, _⟩ := Own.sl ho
    have O2 := hide ho; clear ho
    go_wp2_with fail
    refine (eqMatrix_own R C _ _ _ _ XS _ (Own.below O2.out (by repeat' (first | exact Below.refl _ _ | (refine Below.alloc ?_ ?_ _) | (refine Below.setCell ?_ ?_ _) | (refine Below.drew ?_) | (refine below_drewN ?_ _) | (refine Below.trans ?_ (Below.mono (by assumption) ?_)) | omega | (simp only [World.size_alloc, World.size_setCell, World.size_drew, size_drewN]; omega)))) (Own.below O1.out (by repeat' (first | exact Below.refl _ _ | (refine Below.alloc ?_ ?_ _) | (refine Below.setCell ?_ ?_ _) | (refine Below.drew ?_) | (refine below_drewN ?_ _) | (refine Below.trans ?_ (Below.mono (by assumption) ?_)) | omega | (simp only [World.size_alloc, World.size_setCell, World.size_drew, size_drewN]; omega)))) (by omega)).mono ?_; rintro e w6 ⟨rfl, hb⟩; obtain ⟨hc, hf⟩ := bcell hb; have hz := hb.size; (try simp only [World.size_alloc, World.size_setCell, World.size_drew, size_drewN] at hz); (first | have hs := up3 hz | have hs := up2 hz | have hs := up1 hz | have hs := up0 hz); (try have q10 := hs _ q9); (try have q9 := hs _ q8); (try have q8 := hs _ q7); (try have q7 := hs _ q6); (try have q6 := hs _ q5); (try have q5 := hs _ q4); (try have q4 := hs _ q3); (try have q3 := hs _ q2); (try have q2 := hs _ q1); (try have p7 := hs _ p6); (try have p6 := hs _ p5); (try have p5 := hs _ p4); (try have p4 := hs _ p3); (try have p3 := hs _ p2); (try have p2 := hs _ p1); (try have q1 := new1 hz); (try have p1 := new2 hz); (try have r1 := new3 hz)
    go_wp2_with fail
    have hl2 := Own.lt O2.out
    have hl1 := Own.lt O1.out
    have hl := Own.lt H2.out
    have b0 : Box3 w6 w.heap.size (.int .i64 r) (.int .i64 c) (.slice A xs.length cap) := (by repeat' (first | with_reducible assumption | (with_reducible refine Box3.set ?_ ?_ _) | (with_reducible refine Box3.drew ?_) | (with_reducible refine Box3.drewN ?_ _) | (with_reducible exact Box3.new _ _ _ (by first | rfl | (simp only [World.size_alloc]; done) | (simp only [World.size_alloc]; omega))) | (with_reducible refine Box3.alloc ?_ _) | (with_reducible refine Box3.call ?_ (by assumption)) | (with_reducible refine Box3.grown ?_ (by assumption) (by simp; omega)) | omega | (dsimp only; omega) | (simp only [World.size_alloc, World.size_setCell, World.size_drew, size_drewN]; omega)))
    have b1 : Box3 w6 w3.heap.size (.int .i64 R) (.int .i64 C) (.slice A0 XS.length z0) := (by repeat' (first | with_reducible assumption | (with_reducible refine Box3.set ?_ ?_ _) | (with_reducible refine Box3.drew ?_) | (with_reducible refine Box3.drewN ?_ _) | (with_reducible exact Box3.new _ _ _ (by first | rfl | (simp only [World.size_alloc]; done) | (simp only [World.size_alloc]; omega))) | (with_reducible refine Box3.alloc ?_ _) | (with_reducible refine Box3.call ?_ (by assumption)) | (with_reducible refine Box3.grown ?_ (by assumption) (by simp; omega)) | omega | (dsimp only; omega) | (simp only [World.size_alloc, World.size_setCell, World.size_drew, size_drewN]; omega)))
    have b2 : Box3 w6 w4.heap.size (.int .i64 r) (.int .i64 c) (.slice (some ⟨w3.heap.size + 1 + 3, 0, none⟩) xs.length xs.length) := (by repeat' (first | with_reducible assumption | (with_reducible refine Box3.set ?_ ?_ _) | (with_reducible refine Box3.drew ?_) | (with_reducible refine Box3.drewN ?_ _) | (with_reducible exact Box3.new _ _ _ (by first | rfl | (simp only [World.size_alloc]; done) | (simp only [World.size_alloc]; omega))) | (with_reducible refine Box3.alloc ?_ _) | (with_reducible refine Box3.call ?_ (by assumption)) | (with_reducible refine Box3.grown ?_ (by assumption) (by simp; omega)) | omega | (dsimp only; omega) | (simp only [World.size_alloc, World.size_setCell, World.size_drew, size_drewN]; omega)))
    have b3 : Box3 w6 w5.heap.size (.int .i64 R) (.int .i64 C) (.slice A1 XS.length z1) := (by repeat' (first | with_reducible assumption | (with_reducible refine Box3.set ?_ ?_ _) | (with_reducible refine Box3.drew ?_) | (with_reducible refine Box3.drewN ?_ _) | (with_reducible exact Box3.new _ _ _ (by first | rfl | (simp only [World.size_alloc]; done) | (simp only [World.size_alloc]; omega))) | (with_reducible refine Box3.alloc ?_ _) | (with_reducible refine Box3.call ?_ (by assumption)) | (with_reducible refine Box3.grown ?_ (by assumption) (by simp; omega)) | omega | (dsimp only; omega) | (simp only [World.size_alloc, World.size_setCell, World.size_drew, size_drewN]; omega)))
    have o1 : Own w6 w2.heap.size (.slice A0 XS.length z0) XS := (Own.below O1.out (by repeat' (first | exact Below.refl _ _ | (refine Below.alloc ?_ ?_ _) | (refine Below.setCell ?_ ?_ _) | (refine Below.drew ?_) | (refine below_drewN ?_ _) | (refine Below.trans ?_ (Below.mono (by assumption) ?_)) | omega | (simp only [World.size_alloc, World.size_setCell, World.size_drew, size_drewN]; omega))))
    have o2 : Own w6 (w4.heap.size + 1) (.slice A1 XS.length z1) XS := Own.mono ((Own.below O2.out (by repeat' (first | exact Below.refl _ _ | (refine Below.alloc ?_ ?_ _) | (refine Below.setCell ?_ ?_ _) | (refine Below.drew ?_) | (refine below_drewN ?_ _) | (refine Below.trans ?_ (Below.mono (by assumption) ?_)) | omega | (simp only [World.size_alloc, World.size_setCell, World.size_drew, size_drewN]; omega))))) (by first | omega | (simp only [World.size_alloc]; omega))
    have h2 : Own w6 (w3.heap.size + 1) (.slice (some ⟨w3.heap.size + 1 + 3, 0, none⟩) xs.length xs.length) xs := Own.mono ((Own.below H2.out (by repeat' (first | exact Below.refl _ _ | (refine Below.alloc ?_ ?_ _) | (refine Below.setCell ?_ ?_ _) | (refine Below.drew ?_) | (refine below_drewN ?_ _) | (refine Below.trans ?_ (Below.mono (by assumption) ?_)) | omega | (simp only [World.size_alloc, World.size_setCell, World.size_drew, size_drewN]; omega))))) (by first | omega | (simp only [World.size_alloc]; omega))
    have hA6 : SlI w6 A xs := SlI.below HA.out (by repeat' (first | exact Below.refl _ _ | (refine Below.alloc ?_ ?_ _) | (refine Below.setCell ?_ ?_ _) | (refine Below.drew ?_) | (refine below_drewN ?_ _) | (refine Below.trans ?_ (Below.mono (by assumption) ?_)) | omega | (simp only [World.size_alloc, World.size_setCell, World.size_drew, size_drewN]; omega)))
    have HW : Hid (Below w.heap.size w w6) := (by repeat' (first | exact Below.refl _ _ | (refine Below.alloc ?_ ?_ _) | (refine Below.setCell ?_ ?_ _) | (refine Below.drew ?_) | (refine below_drewN ?_ _) | (refine Below.trans ?_ (Below.mono (by assumption) ?_)) | omega | (simp only [World.size_alloc, World.size_setCell, World.size_drew, size_drewN]; omega)))
    (try rw [World.size_alloc] at hl2)
    have hsz : w.heap.size < w3.heap.size ∧ w3.heap.size + 1 + 3 < w4.heap.size ∧ w4.heap.size < w5.heap.size ∧ w5.heap.size < w6.heap.size := by
      have := hl (w3.heap.size + 1 + 3) rfl
      have := b3.lt
      have := b2.lt
      refine ⟨?_, ?_, ?_, ?_⟩ <;> omega
    obtain ⟨v1, v2, v3, v4⟩ := hsz
    clear hl hc hf hs hb hz H1 O1 O2 H2
    have O1 := hide o1; clear o1
    have O2 := hide o2; clear o2
    have H2 := hide h2; clear h2
    have HA6 := hide hA6; clear hA6
    have k1 := hide b1
    have k3 := hide b3
    obtain ⟨⟨a0, a1, a2⟩, _⟩ := b0
    obtain ⟨⟨d0, d1, d2⟩, _⟩ := b2
    clear b1 b3
    go_region_held3 (fun w' => w'.cell? ⟨w.heap.size, 0, none⟩ = some (.int .i64 r) ∧ w'.cell? ⟨w.heap.size, 1, none⟩ = some (.int .i64 c) ∧ w'.cell? ⟨w.heap.size, 2, none⟩ = some (.slice A xs.length cap) ∧ w'.cell? ⟨w4.heap.size, 0, none⟩ = some (.int .i64 r) ∧ w'.cell? ⟨w4.heap.size, 1, none⟩ = some (.int .i64 c) ∧ w'.cell? ⟨w4.heap.size, 2, none⟩ = some (.slice (some ⟨w3.heap.size + 1 + 3, 0, none⟩) xs.length xs.length) ∧ Below w6.heap.size w6 w')
      (first
        | exact kc6_call (by assumption) (by assumption)
        | (refine ⟨?_, ?_, ?_, ?_, ?_, ?_, ?_⟩ <;> first | assumption | (go_simp; done) | exact (by repeat' (first | exact Below.refl _ _ | (refine Below.alloc ?_ ?_ _) | (refine Below.setCell ?_ ?_ _) | (refine Below.drew ?_) | (refine below_drewN ?_ _) | (refine Below.trans ?_ (Below.mono (by assumption) ?_)) | omega | (simp only [World.size_alloc, World.size_setCell, World.size_drew, size_drewN]; omega)))))
      (first
        | (go_at_call 13; refine (toMatrix r c A cap xs _ (SlI.below HA6.out (by repeat' (first | exact Below.refl _ _ | (refine Below.alloc ?_ ?_ _) | (refine Below.setCell ?_ ?_ _) | (refine Below.drew ?_) | (refine below_drewN ?_ _) | (refine Below.trans ?_ (Below.mono (by assumption) ?_)) | omega | (simp only [World.size_alloc, World.size_setCell, World.size_drew, size_drewN]; omega)))) hn).mono ?_; rintro e w7 ⟨rfl, ho, hb⟩; obtain ⟨hc, hf⟩ := bcell hb; have hz := hb.size; (try simp only [World.size_alloc, World.size_setCell, World.size_drew, size_drewN] at hz); (first | have hs := up3 hz | have hs := up2 hz | have hs := up1 hz | have hs := up0 hz); (try have q10 := hs _ q9); (try have q9 := hs _ q8); (try have q8 := hs _ q7); (try have q7 := hs _ q6); (try have q6 := hs _ q5); (try have q5 := hs _ q4); (try have q4 := hs _ q3); (try have q3 := hs _ q2); (try have q2 := hs _ q1); (try have p7 := hs _ p6); (try have p6 := hs _ p5); (try have p5 := hs _ p4); (try have p4 := hs _ p3); (try have p3 := hs _ p2); (try have p2 := hs _ p1); (try have q1 := new1 hz); (try have p1 := new2 hz); (try have r1 := new3 hz); (try simp only [World.size_alloc, World.size_setCell, World.size_drew, size_drewN] at ho); have H3 := hide ho; clear ho)
        | (go_at_call 15; refine (eqMatrix_same r c _ _ _ _ xs _ (SlI.below (Own.reads H2.out).2 (by repeat' (first | exact Below.refl _ _ | (refine Below.alloc ?_ ?_ _) | (refine Below.setCell ?_ ?_ _) | (refine Below.drew ?_) | (refine below_drewN ?_ _) | (refine Below.trans ?_ (Below.mono (by assumption) ?_)) | omega | (simp only [World.size_alloc, World.size_setCell, World.size_drew, size_drewN]; omega)))) (SlI.below (Own.reads H3.out).2 (by repeat' (first | exact Below.refl _ _ | (refine Below.alloc ?_ ?_ _) | (refine Below.setCell ?_ ?_ _) | (refine Below.drew ?_) | (refine below_drewN ?_ _) | (refine Below.trans ?_ (Below.mono (by assumption) ?_)) | omega | (simp only [World.size_alloc, World.size_setCell, World.size_drew, size_drewN]; omega)))) hn).mono ?_; rintro e w8 ⟨rfl, hb⟩; obtain ⟨hc, hf⟩ := bcell hb; have hz := hb.size; (try simp only [World.size_alloc, World.size_setCell, World.size_drew, size_drewN] at hz); (first | have hs := up3 hz | have hs := up2 hz | have hs := up1 hz | have hs := up0 hz); (try have q10 := hs _ q9); (try have q9 := hs _ q8); (try have q8 := hs _ q7); (try have q7 := hs _ q6); (try have q6 := hs _ q5); (try have q5 := hs _ q4); (try have q4 := hs _ q3); (try have q3 := hs _ q2); (try have q2 := hs _ q1); (try have p7 := hs _ p6); (try have p6 := hs _ p5); (try have p5 := hs _ p4); (try have p4 := hs _ p3); (try have p3 := hs _ p2); (try have p2 := hs _ p1); (try have q1 := new1 hz); (try have p1 := new2 hz); (try have r1 := new3 hz)))
    obtain ⟨e0, e1, e2, f0, f1, f2, HB⟩ := ‹_ ∧ _ ∧ _ ∧ _ ∧ _ ∧ _ ∧ Below w6.heap.size w6 w8›
    have HBH := hide HB
    clear hc hf hs hb hz a0 a1 a2 d0 d1 d2 HB
    have hsz8 : w6.heap.size ≤ w8.heap.size := HBH.out.size
    have hl : ∀ k, (Value.slice (some ⟨w3.heap.size + 1 + 3, 0, none⟩) xs.length xs.length).ownBlock = some k → w3.heap.size + 1 ≤ k ∧ k < w4.heap.size := fun k e => by
      simp only [Value.ownBlock, Option.map_some, Option.some.injEq] at e; omega
    go_wp2_with fail
    refine (markMatrix r c _ _ xs 1 _ (H2.out.below HBH.out) (by omega) (by omega) (by omega)).mono ?_; rintro e w9 ⟨rfl, ho, hg⟩
    have hB9 := below_mark (HW.out.trans (HBH.out.mono (by omega))) hg hl (by omega) (by omega)
    have r0 := keepO hg hl e0 (by omega)
    have r1 := keepO hg hl e1 (by omega)
    have r2 := keepO hg hl e2 (by omega)
    have hk1 : some w3.heap.size ≠ (Value.slice (some ⟨w3.heap.size + 1 + 3, 0, none⟩) xs.length xs.length).ownBlock := fun e => by have := hl _ e.symm; omega
    have hk3 : some w5.heap.size ≠ (Value.slice (some ⟨w3.heap.size + 1 + 3, 0, none⟩) xs.length xs.length).ownBlock := fun e => by have := hl _ e.symm; omega
    have g1 := hide ((k1.out.call HBH.out).grown hg hk1)
    have g3 := hide ((k3.out.call HBH.out).grown hg hk3)
    obtain ⟨⟨i0, i1, i2⟩, _⟩ := g1.out
    obtain ⟨⟨j0, j1, j2⟩, _⟩ := g3.out
    have P1 := hide (keepS hg hl (O1.out.below HBH.out) hl1 (by omega))
    have P2 := hide (keepS hg hl (O2.out.below HBH.out) hl2 (by omega))
    have hz9 : w8.heap.size ≤ w9.heap.size := hg.size
    clear e0 e1 e2 f0 f1 f2 ho hg hk1 hk3 k1 k3 O1 O2 H2 H3 HBH HA6 HW
    go_wp2_with fail
    refine (eqMatrix_own R C _ _ _ _ XS _ (Own.below P2.out (by repeat' (first | exact Below.refl _ _ | (refine Below.alloc ?_ ?_ _) | (refine Below.setCell ?_ ?_ _) | (refine Below.drew ?_) | (refine below_drewN ?_ _) | (refine Below.trans ?_ (Below.mono (by assumption) ?_)) | omega | (simp only [World.size_alloc, World.size_setCell, World.size_drew, size_drewN]; omega)))) (Own.below P1.out (by repeat' (first | exact Below.refl _ _ | (refine Below.alloc ?_ ?_ _) | (refine Below.setCell ?_ ?_ _) | (refine Below.drew ?_) | (refine below_drewN ?_ _) | (refine Below.trans ?_ (Below.mono (by assumption) ?_)) | omega | (simp only [World.size_alloc, World.size_setCell, World.size_drew, size_drewN]; omega)))) (by omega)).mono ?_; rintro e w10 ⟨rfl, hb⟩
    have hz10 := hb.size
    have o1 := hide (P1.out.below hb)
    have o2 := hide (P2.out.below hb)
    have k1 := hide (g1.out.call hb)
    have k3 := hide (g3.out.call hb)
    have u0 := kc_call r0 hb
    have u1 := kc_call r1 hb
    have u2 := kc_call r2 hb
    have HW10 := hide (kb_call hB9 (Nat.le_refl _) hb)
    clear P1 P2 g1 g3 r0 r1 r2 hB9 hb i0 i1 i2 j0 j1 j2
    obtain ⟨⟨j0, j1, j2⟩, _⟩ := k3.out
    go_wp2_with fail
    refine (markMatrix R C _ _ XS 1 _ o2.out (by omega) (by omega) (by omega)).mono ?_; rintro e w11 ⟨rfl, ho, hg⟩
    have hB11 := below_mark HW10.out hg hl2 (by omega) (by omega)
    have r0 := keepO hg hl2 u0 (by omega)
    have r1 := keepO hg hl2 u1 (by omega)
    have r2 := keepO hg hl2 u2 (by omega)
    have hk1 : some w3.heap.size ≠ (Value.slice A1 XS.length z1).ownBlock := fun e => by have := hl2 _ e.symm; omega
    have hk3 : some w5.heap.size ≠ (Value.slice A1 XS.length z1).ownBlock := fun e => by have := hl2 _ e.symm; omega
    have g1 := hide (k1.out.grown hg hk1)
    have g3 := hide (k3.out.grown hg hk3)
    have P1 := hide (keepS hg hl2 o1.out hl1 (by omega))
    have P2 := hide ho
    have hz11 := hg.size
    clear o1 o2 k1 k3 u0 u1 u2 HW10 ho hg hk1 hk3 j0 j1 j2
    obtain ⟨⟨j0, j1, j2⟩, _⟩ := g3.out
    have eM : ((1 + (XS.length : Int)) != (1 + (XS.length : Int))) = false := by simp
    have q1 : w.heap.size < w11.heap.size := World.block_lt_of_cell? _ ⟨w.heap.size, 0, none⟩ r0
    go_wp2_with fail
    refine (heldMatrix_own R C _ _ 1 XS.length _ (Own.below P2.out (by repeat' (first | exact Below.refl _ _ | (refine Below.alloc ?_ ?_ _) | (refine Below.setCell ?_ ?_ _) | (refine Below.drew ?_) | (refine below_drewN ?_ _) | (refine Below.trans ?_ (Below.mono (by assumption) ?_)) | omega | (simp only [World.size_alloc, World.size_setCell, World.size_drew, size_drewN]; omega)))) (by omega) (by omega) (by omega)).mono ?_; rintro e w12 ⟨rfl, hb⟩; obtain ⟨hc, hf⟩ := bcell hb; have hz := hb.size; (try simp only [World.size_alloc, World.size_setCell, World.size_drew, size_drewN] at hz); (first | have hs := up3 hz | have hs := up2 hz | have hs := up1 hz | have hs := up0 hz); (try have q10 := hs _ q9); (try have q9 := hs _ q8); (try have q8 := hs _ q7); (try have q7 := hs _ q6); (try have q6 := hs _ q5); (try have q5 := hs _ q4); (try have q4 := hs _ q3); (try have q3 := hs _ q2); (try have q2 := hs _ q1); (try have p7 := hs _ p6); (try have p6 := hs _ p5); (try have p5 := hs _ p4); (try have p4 := hs _ p3); (try have p3 := hs _ p2); (try have p2 := hs _ p1); (try have q1 := new1 hz); (try have p1 := new2 hz); (try have r1 := new3 hz)
    go_wp2_with fail
    refine (toMatrix r c A cap xs _ (SlI.below HA.out (by repeat' (first | exact Below.refl _ _ | (refine Below.alloc ?_ ?_ _) | (refine Below.setCell ?_ ?_ _) | (refine Below.drew ?_) | (refine below_drewN ?_ _) | (refine Below.trans ?_ (Below.mono (by assumption) ?_)) | omega | (simp only [World.size_alloc, World.size_setCell, World.size_drew, size_drewN]; omega)))) hn).mono ?_; rintro e w13 ⟨rfl, ho, hb⟩; obtain ⟨hc, hf⟩ := bcell hb; have hz := hb.size; (try simp only [World.size_alloc, World.size_setCell, World.size_drew, size_drewN] at hz); (first | have hs := up3 hz | have hs := up2 hz | have hs := up1 hz | have hs := up0 hz); (try have q10 := hs _ q9); (try have q9 := hs _ q8); (try have q8 := hs _ q7); (try have q7 := hs _ q6); (try have q6 := hs _ q5); (try have q5 := hs _ q4); (try have q4 := hs _ q3); (try have q3 := hs _ q2); (try have q2 := hs _ q1); (try have p7 := hs _ p6); (try have p6 := hs _ p5); (try have p5 := hs _ p4); (try have p4 := hs _ p3); (try have p3 := hs _ p2); (try have p2 := hs _ p1); (try have q1 := new1 hz); (try have p1 := new2 hz); (try have r1 := new3 hz); (try simp only [World.size_alloc, World.size_setCell, World.size_drew, size_drewN] at ho)
    have H4 := hide ho; clear ho
    go_wp2_with fail
    refine (CI.out _ _ _ (Own.sl2 (Own.below H4.out (by repeat' (first | exact Below.refl _ _ | (refine Below.alloc ?_ ?_ _) | (refine Below.setCell ?_ ?_ _) | (refine Below.drew ?_) | (refine below_drewN ?_ _) | (refine Below.trans ?_ (Below.mono (by assumption) ?_)) | omega | (simp only [World.size_alloc, World.size_setCell, World.size_drew, size_drewN]; omega)))))).mono ?_; rintro e w14 ⟨s2, rfl, ho, hb⟩; obtain ⟨hc, hf⟩ := bcell hb; have hz := hb.size; (try simp only [World.size_alloc, World.size_setCell, World.size_drew, size_drewN] at hz); (first | have hs := up3 hz | have hs := up2 hz | have hs := up1 hz | have hs := up0 hz); (try have q10 := hs _ q9); (try have q9 := hs _ q8); (try have q8 := hs _ q7); (try have q7 := hs _ q6); (try have q6 := hs _ q5); (try have q5 := hs _ q4); (try have q4 := hs _ q3); (try have q3 := hs _ q2); (try have q2 := hs _ q1); (try have p7 := hs _ p6); (try have p6 := hs _ p5); (try have p5 := hs _ p4); (try have p4 := hs _ p3); (try have p3 := hs _ p2); (try have p2 := hs _ p1); (try have q1 := new1 hz); (try have p1 := new2 hz); (try have r1 := new3 hz); obtain ⟨A2, z2, rfl, _⟩ := Own.sl ho
    have O3 := hide ho; clear ho
    have k1 := g1.out
    have k3 := g3.out
    have t1 : Box3 w14 w3.heap.size (.int .i64 R) (.int .i64 C) (.slice A0 XS.length z0) := (by repeat' (first | with_reducible assumption | (with_reducible refine Box3.set ?_ ?_ _) | (with_reducible refine Box3.drew ?_) | (with_reducible refine Box3.drewN ?_ _) | (with_reducible exact Box3.new _ _ _ (by first | rfl | (simp only [World.size_alloc]; done) | (simp only [World.size_alloc]; omega))) | (with_reducible refine Box3.alloc ?_ _) | (with_reducible refine Box3.call ?_ (by assumption)) | (with_reducible refine Box3.grown ?_ (by assumption) (by simp; omega)) | omega | (dsimp only; omega) | (simp only [World.size_alloc, World.size_setCell, World.size_drew, size_drewN]; omega)))
    have t3 : Box3 w14 w5.heap.size (.int .i64 R) (.int .i64 C) (.slice A1 XS.length z1) := (by repeat' (first | with_reducible assumption | (with_reducible refine Box3.set ?_ ?_ _) | (with_reducible refine Box3.drew ?_) | (with_reducible refine Box3.drewN ?_ _) | (with_reducible exact Box3.new _ _ _ (by first | rfl | (simp only [World.size_alloc]; done) | (simp only [World.size_alloc]; omega))) | (with_reducible refine Box3.alloc ?_ _) | (with_reducible refine Box3.call ?_ (by assumption)) | (with_reducible refine Box3.grown ?_ (by assumption) (by simp; omega)) | omega | (dsimp only; omega) | (simp only [World.size_alloc, World.size_setCell, World.size_drew, size_drewN]; omega)))
    clear k1 k3
    obtain ⟨⟨i0, i1, i2⟩, _⟩ := t1
    obtain ⟨⟨n0, n1, n2⟩, _⟩ := t3
    clear j0 j1 j2
    have q2 : w3.heap.size < w14.heap.size := World.block_lt_of_cell? _ ⟨w3.heap.size, 0, none⟩ i0
    have q3 : w5.heap.size < w14.heap.size := World.block_lt_of_cell? _ ⟨w5.heap.size, 0, none⟩ n0
    go_wp2_with fail
    refine (eqMatrix_own R C _ _ _ _ XS _ (Own.below O3.out (by repeat' (first | exact Below.refl _ _ | (refine Below.alloc ?_ ?_ _) | (refine Below.setCell ?_ ?_ _) | (refine Below.drew ?_) | (refine below_drewN ?_ _) | (refine Below.trans ?_ (Below.mono (by assumption) ?_)) | omega | (simp only [World.size_alloc, World.size_setCell, World.size_drew, size_drewN]; omega)))) (Own.below P1.out (by repeat' (first | exact Below.refl _ _ | (refine Below.alloc ?_ ?_ _) | (refine Below.setCell ?_ ?_ _) | (refine Below.drew ?_) | (refine below_drewN ?_ _) | (refine Below.trans ?_ (Below.mono (by assumption) ?_)) | omega | (simp only [World.size_alloc, World.size_setCell, World.size_drew, size_drewN]; omega)))) (by omega)).mono ?_; rintro e w15 ⟨rfl, hb⟩; obtain ⟨hc, hf⟩ := bcell hb; have hz := hb.size; (try simp only [World.size_alloc, World.size_setCell, World.size_drew, size_drewN] at hz); (first | have hs := up3 hz | have hs := up2 hz | have hs := up1 hz | have hs := up0 hz); (try have q10 := hs _ q9); (try have q9 := hs _ q8); (try have q8 := hs _ q7); (try have q7 := hs _ q6); (try have q6 := hs _ q5); (try have q5 := hs _ q4); (try have q4 := hs _ q3); (try have q3 := hs _ q2); (try have q2 := hs _ q1); (try have p7 := hs _ p6); (try have p6 := hs _ p5); (try have p5 := hs _ p4); (try have p4 := hs _ p3); (try have p3 := hs _ p2); (try have p2 := hs _ p1); (try have q1 := new1 hz); (try have p1 := new2 hz); (try have r1 := new3 hz)
    go_wp2_with fail
    refine (heldMatrix_own R C _ _ 1 XS.length _ (Own.below P2.out (by repeat' (first | exact Below.refl _ _ | (refine Below.alloc ?_ ?_ _) | (refine Below.setCell ?_ ?_ _) | (refine Below.drew ?_) | (refine below_drewN ?_ _) | (refine Below.trans ?_ (Below.mono (by assumption) ?_)) | omega | (simp only [World.size_alloc, World.size_setCell, World.size_drew, size_drewN]; omega)))) (by omega) (by omega) (by omega)).mono ?_; rintro e w16 ⟨rfl, hb⟩; obtain ⟨hc, hf⟩ := bcell hb; have hz := hb.size; (try simp only [World.size_alloc, World.size_setCell, World.size_drew, size_drewN] at hz); (first | have hs := up3 hz | have hs := up2 hz | have hs := up1 hz | have hs := up0 hz); (try have q10 := hs _ q9); (try have q9 := hs _ q8); (try have q8 := hs _ q7); (try have q7 := hs _ q6); (try have q6 := hs _ q5); (try have q5 := hs _ q4); (try have q4 := hs _ q3); (try have q3 := hs _ q2); (try have q2 := hs _ q1); (try have p7 := hs _ p6); (try have p6 := hs _ p5); (try have p5 := hs _ p4); (try have p4 := hs _ p3); (try have p3 := hs _ p2); (try have p2 := hs _ p1); (try have q1 := new1 hz); (try have p1 := new2 hz); (try have r1 := new3 hz)
    go_wp2
    go_returns
    exact ⟨rfl, (by repeat' (first | exact Below.refl _ _ | (refine Below.alloc ?_ ?_ _) | (refine Below.setCell ?_ ?_ _) | (refine Below.drew ?_) | (refine below_drewN ?_ _) | (refine Below.trans ?_ (Below.mono (by assumption) ?_)) | omega | (simp only [World.size_alloc, World.size_setCell, World.size_drew, size_drewN]; omega)))⟩
  · go_enter Try.func8, Try.ntmps8
    go_wp2_with (go_at_call 11; refine (szMatrix_no r c A cap xs.length 1048576 _ (by omega) (by omega) (by omega) (by omega)).mono ?_; rintro e w1 ⟨rfl, hb⟩)
    go_returns
    exact ⟨rfl, (by repeat' (first | exact Below.refl _ _ | (refine Below.alloc ?_ ?_ _) | (refine Below.setCell ?_ ?_ _) | (refine Below.drew ?_) | (refine below_drewN ?_ _) | (refine Below.trans ?_ (Below.mono (by assumption) ?_)) | omega | (simp only [World.size_alloc, World.size_setCell, World.size_drew, size_drewN]; omega)))⟩
theorem walkFnExactInverseOf (r : Int) (_l0 : -9223372036854775808 ≤ r) (_u0 : r ≤ 9223372036854775807) (c : Int) (_l1 : -9223372036854775808 ≤ c) (_u1 : c ≤ 9223372036854775807) (A : Option Addr) (n' cap : Nat) (xs : List Int)  (w : World) (hs : SlArg w A n' cap xs) :
    Calls Try.prog 8 #[mv r c (.slice A n' cap)] w fun e w' => e = .returned (.bool true) ∧ Below w.heap.size w w' := by
  obtain ⟨rfl, hm, hA⟩ := hs
  exact lawFnExactInverseOf r c A cap xs w hA hm
end Go.Proofs.Ytchlaebkigmfgaa
