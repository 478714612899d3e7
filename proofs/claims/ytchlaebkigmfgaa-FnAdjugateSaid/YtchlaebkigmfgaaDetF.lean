/- The walks of DeterminantOf and IsUnimodular. -/
import Derived.Test.YtchlaebkigmfgaaDetW
import Derived.Test.YtchlaebkigmfgaaSquareW
namespace Go.Proofs.Ytchlaebkigmfgaa
open Go.RowKit
set_option linter.unusedSimpArgs false
set_option linter.unusedVariables false

def detVal : Option Int → Int × Bool
  | none => (0, false)
  | some d => (d, true)
def detRes (r c : Int) (xs : List Int) : Int × Bool := if isSq r c xs = true then detVal (detL r.toNat xs) else (0, false)
def unimod (r c : Int) (xs : List Int) : Bool := (detRes r c xs).2 && ((detRes r c xs).1.natAbs == 1)
theorem isSq_t {r c : Int} {xs : List Int} (h : isSq r c xs = true) : ∃ n : Nat, r = n ∧ c = n ∧ n ≤ 6 ∧ xs.length = n * n ∧ xs.all isNum = true ∧ isMat r c xs = true := by
  simp only [isSq, Bool.and_eq_true, decide_eq_true_eq] at h
  obtain ⟨h1, h2, h3⟩ := h
  obtain ⟨m1, m2, m3, m4, m5, m6, m7⟩ := isMat_t h1
  subst h2
  obtain ⟨n, rfl⟩ := Int.eq_ofNat_of_zero_le m1
  refine ⟨n, rfl, rfl, by omega, ?_, ?_, h1⟩
  · have : (xs.length : Int) = ((n * n : Nat) : Int) := by rw [m5]; push_cast; rfl
    omega
  · rw [List.all_eq_true]; exact m6
theorem detRes_in {r c : Int} {xs : List Int} : (-400000000 ≤ (detRes r c xs).1 ∧ (detRes r c xs).1 ≤ 400000000) := by
  unfold detRes
  split
  · cases h : detL r.toNat xs with
    | none => simp [detVal]
    | some d => exact isNum_t (detO_num h)
  · simp
set_option maxHeartbeats 2000000 in
theorem implDetOf (r c : Int) (A : Option Addr) (cap : Nat) (xs : List Int) (w : World) (hA : Sl w A xs.length cap xs) (hn : xs.length ≤ 1048576) :
    Calls Try.prog 14 #[mv r c (.slice A xs.length cap)] w fun e w' => e = .returned (.tuple #[.int .i64 (detRes r c xs).1, .bool (detRes r c xs).2]) ∧ Below w.heap.size w w' := by
  have HA := hide hA; clear hA
  rcases Bool.eq_false_or_eq_true (isSq r c xs) with hq | hq
  · obtain ⟨n, rfl, rfl, h6, hl, hx, _⟩ := isSq_t hq
    have HR : Hid (detRes n n xs = detVal (detL n xs)) := by rw [Hid, detRes, if_pos hq]; rfl
    rw [HR.out]
    have dt := fun A cap w (h : Sl w A xs.length cap xs) => implDet n A cap xs w h hl h6 hx
    clear hl hx
    cases ho : detL n xs with
    | none =>
      rw [ho] at dt
      have DT := hide dt
      clear dt ho HR
      go_enter Try.func14, Try.ntmps14
      go_wp2_with fail
      refine (implIsSquare n n A cap xs _ (SlI.below HA.out.2.2.2.2 (by repeat' (first | exact Below.refl _ _ | (refine Below.alloc ?_ ?_ _) | (refine Below.setCell ?_ ?_ _) | (refine Below.drew ?_) | (refine below_drewN ?_ _) | (refine Below.trans ?_ (Below.mono (by assumption) ?_)) | omega | (simp only [World.size_alloc, World.size_setCell, World.size_drew, size_drewN]; omega)))) hn).mono ?_; rintro e w1 ⟨rfl, hb⟩; obtain ⟨hc, hf⟩ := bcell hb; have hz := hb.size; (try simp only [World.size_alloc, World.size_setCell, World.size_drew, size_drewN] at hz); (first | have hs := up3 hz | have hs := up2 hz | have hs := up1 hz | have hs := up0 hz); (try have q10 := hs _ q9); (try have q9 := hs _ q8); (try have q8 := hs _ q7); (try have q7 := hs _ q6); (try have q6 := hs _ q5); (try have q5 := hs _ q4); (try have q4 := hs _ q3); (try have q3 := hs _ q2); (try have q2 := hs _ q1); (try have p7 := hs _ p6); (try have p6 := hs _ p5); (try have p5 := hs _ p4); (try have p4 := hs _ p3); (try have p3 := hs _ p2); (try have p2 := hs _ p1); (try have q1 := new1 hz); (try have p1 := new2 hz); (try have r1 := new3 hz)
      go_wp2_with fail
      refine (DT.out A cap _ (HA.out.below (by repeat' (first | exact Below.refl _ _ | (refine Below.alloc ?_ ?_ _) | (refine Below.setCell ?_ ?_ _) | (refine Below.drew ?_) | (refine below_drewN ?_ _) | (refine Below.trans ?_ (Below.mono (by assumption) ?_)) | omega | (simp only [World.size_alloc, World.size_setCell, World.size_drew, size_drewN]; omega))))).mono ?_; rintro e w2 hr; obtain ⟨⟨v, rfl⟩, hb⟩ := retDet_no hr; clear hr
      go_wp2
      go_returns
      exact ⟨rfl, (by repeat' (first | exact Below.refl _ _ | (refine Below.alloc ?_ ?_ _) | (refine Below.setCell ?_ ?_ _) | (refine Below.drew ?_) | (refine below_drewN ?_ _) | (refine Below.trans ?_ (Below.mono (by assumption) ?_)) | omega | (simp only [World.size_alloc, World.size_setCell, World.size_drew, size_drewN]; omega)))⟩
    | some d =>
      rw [ho] at dt
      have DT := hide dt
      clear dt ho HR
      go_enter Try.func14, Try.ntmps14
      go_wp2_with fail
      refine (implIsSquare n n A cap xs _ (SlI.below HA.out.2.2.2.2 (by repeat' (first | exact Below.refl _ _ | (refine Below.alloc ?_ ?_ _) | (refine Below.setCell ?_ ?_ _) | (refine Below.drew ?_) | (refine below_drewN ?_ _) | (refine Below.trans ?_ (Below.mono (by assumption) ?_)) | omega | (simp only [World.size_alloc, World.size_setCell, World.size_drew, size_drewN]; omega)))) hn).mono ?_; rintro e w1 ⟨rfl, hb⟩; obtain ⟨hc, hf⟩ := bcell hb; have hz := hb.size; (try simp only [World.size_alloc, World.size_setCell, World.size_drew, size_drewN] at hz); (first | have hs := up3 hz | have hs := up2 hz | have hs := up1 hz | have hs := up0 hz); (try have q10 := hs _ q9); (try have q9 := hs _ q8); (try have q8 := hs _ q7); (try have q7 := hs _ q6); (try have q6 := hs _ q5); (try have q5 := hs _ q4); (try have q4 := hs _ q3); (try have q3 := hs _ q2); (try have q2 := hs _ q1); (try have p7 := hs _ p6); (try have p6 := hs _ p5); (try have p5 := hs _ p4); (try have p4 := hs _ p3); (try have p3 := hs _ p2); (try have p2 := hs _ p1); (try have q1 := new1 hz); (try have p1 := new2 hz); (try have r1 := new3 hz)
      go_wp2_with fail
      refine (DT.out A cap _ (HA.out.below (by repeat' (first | exact Below.refl _ _ | (refine Below.alloc ?_ ?_ _) | (refine Below.setCell ?_ ?_ _) | (refine Below.drew ?_) | (refine below_drewN ?_ _) | (refine Below.trans ?_ (Below.mono (by assumption) ?_)) | omega | (simp only [World.size_alloc, World.size_setCell, World.size_drew, size_drewN]; omega))))).mono ?_; rintro e w2 hr; obtain ⟨rfl, hb⟩ := retDet_yes hr; clear hr
      go_wp2
      go_returns
      exact ⟨rfl, (by repeat' (first | exact Below.refl _ _ | (refine Below.alloc ?_ ?_ _) | (refine Below.setCell ?_ ?_ _) | (refine Below.drew ?_) | (refine below_drewN ?_ _) | (refine Below.trans ?_ (Below.mono (by assumption) ?_)) | omega | (simp only [World.size_alloc, World.size_setCell, World.size_drew, size_drewN]; omega)))⟩
  · have HR : Hid (detRes r c xs = (0, false)) := by rw [Hid, detRes, if_neg (by simp [hq])]
    rw [HR.out]
    go_enter Try.func14, Try.ntmps14
    go_wp2_with fail
    refine (implIsSquare r c A cap xs _ (SlI.below HA.out.2.2.2.2 (by repeat' (first | exact Below.refl _ _ | (refine Below.alloc ?_ ?_ _) | (refine Below.setCell ?_ ?_ _) | (refine Below.drew ?_) | (refine below_drewN ?_ _) | (refine Below.trans ?_ (Below.mono (by assumption) ?_)) | omega | (simp only [World.size_alloc, World.size_setCell, World.size_drew, size_drewN]; omega)))) hn).mono ?_; rintro e w1 ⟨rfl, hb⟩
    go_wp2
    go_returns
    exact ⟨rfl, (by repeat' (first | exact Below.refl _ _ | (refine Below.alloc ?_ ?_ _) | (refine Below.setCell ?_ ?_ _) | (refine Below.drew ?_) | (refine below_drewN ?_ _) | (refine Below.trans ?_ (Below.mono (by assumption) ?_)) | omega | (simp only [World.size_alloc, World.size_setCell, World.size_drew, size_drewN]; omega)))⟩
set_option maxHeartbeats 2000000 in
theorem specDetOf (r c : Int) (A : Option Addr) (cap : Nat) (xs : List Int) (w : World) (hA : Sl w A xs.length cap xs) (hn : xs.length ≤ 1048576) :
    Calls Try.prog 12 #[mv r c (.slice A xs.length cap)] w fun e w' => e = .returned (.tuple #[.int .i64 (detRes r c xs).1, .bool (detRes r c xs).2]) ∧ Below w.heap.size w w' := by
  have HA := hide hA; clear hA
  rcases Bool.eq_false_or_eq_true (isSq r c xs) with hq | hq
  · obtain ⟨n, rfl, rfl, h6, hl, hx, _⟩ := isSq_t hq
    have HR : Hid (detRes n n xs = detVal (detL n xs)) := by rw [Hid, detRes, if_pos hq]; rfl
    rw [HR.out]
    have dt := fun A cap w (h : Sl w A xs.length cap xs) => specDet n A cap xs w h hl h6 hx
    clear hl hx
    cases ho : detL n xs with
    | none =>
      rw [ho] at dt
      have DT : Hid (∀ A cap w, Sl w A xs.length cap xs → Calls Try.prog 41 #[mv (n : Int) (n : Int) (.slice A xs.length cap)] w fun e w' => e = .returned (.int .i64 (-4611686018427387904)) ∧ Below w.heap.size w w') := dt
      clear dt ho HR
      go_enter Try.func12, Try.ntmps12
      go_wp2_with fail
      refine (specIsSquare n n A cap xs _ (SlI.below HA.out.2.2.2.2 (by repeat' (first | exact Below.refl _ _ | (refine Below.alloc ?_ ?_ _) | (refine Below.setCell ?_ ?_ _) | (refine Below.drew ?_) | (refine below_drewN ?_ _) | (refine Below.trans ?_ (Below.mono (by assumption) ?_)) | omega | (simp only [World.size_alloc, World.size_setCell, World.size_drew, size_drewN]; omega)))) hn).mono ?_; rintro e w1 ⟨rfl, hb⟩; obtain ⟨hc, hf⟩ := bcell hb; have hz := hb.size; (try simp only [World.size_alloc, World.size_setCell, World.size_drew, size_drewN] at hz); (first | have hs := up3 hz | have hs := up2 hz | have hs := up1 hz | have hs := up0 hz); (try have q10 := hs _ q9); (try have q9 := hs _ q8); (try have q8 := hs _ q7); (try have q7 := hs _ q6); (try have q6 := hs _ q5); (try have q5 := hs _ q4); (try have q4 := hs _ q3); (try have q3 := hs _ q2); (try have q2 := hs _ q1); (try have p7 := hs _ p6); (try have p6 := hs _ p5); (try have p5 := hs _ p4); (try have p4 := hs _ p3); (try have p3 := hs _ p2); (try have p2 := hs _ p1); (try have q1 := new1 hz); (try have p1 := new2 hz); (try have r1 := new3 hz)
      go_wp2_with fail
      refine (DT.out A cap _ (HA.out.below (by repeat' (first | exact Below.refl _ _ | (refine Below.alloc ?_ ?_ _) | (refine Below.setCell ?_ ?_ _) | (refine Below.drew ?_) | (refine below_drewN ?_ _) | (refine Below.trans ?_ (Below.mono (by assumption) ?_)) | omega | (simp only [World.size_alloc, World.size_setCell, World.size_drew, size_drewN]; omega))))).mono ?_; rintro e w2 ⟨rfl, hb⟩
      go_wp2
      go_returns
      exact ⟨rfl, (by repeat' (first | exact Below.refl _ _ | (refine Below.alloc ?_ ?_ _) | (refine Below.setCell ?_ ?_ _) | (refine Below.drew ?_) | (refine below_drewN ?_ _) | (refine Below.trans ?_ (Below.mono (by assumption) ?_)) | omega | (simp only [World.size_alloc, World.size_setCell, World.size_drew, size_drewN]; omega)))⟩
    | some d =>
      have hd := isNum_t (detO_num ho)
      have hdb : (d == -4611686018427387904) = false := by simp; omega
      rw [ho] at dt
      have DT : Hid (∀ A cap w, Sl w A xs.length cap xs → Calls Try.prog 41 #[mv (n : Int) (n : Int) (.slice A xs.length cap)] w fun e w' => e = .returned (.int .i64 d) ∧ Below w.heap.size w w') := dt
      clear dt ho HR
      go_enter Try.func12, Try.ntmps12
      go_wp2_with fail
      refine (specIsSquare n n A cap xs _ (SlI.below HA.out.2.2.2.2 (by repeat' (first | exact Below.refl _ _ | (refine Below.alloc ?_ ?_ _) | (refine Below.setCell ?_ ?_ _) | (refine Below.drew ?_) | (refine below_drewN ?_ _) | (refine Below.trans ?_ (Below.mono (by assumption) ?_)) | omega | (simp only [World.size_alloc, World.size_setCell, World.size_drew, size_drewN]; omega)))) hn).mono ?_; rintro e w1 ⟨rfl, hb⟩; obtain ⟨hc, hf⟩ := bcell hb; have hz := hb.size; (try simp only [World.size_alloc, World.size_setCell, World.size_drew, size_drewN] at hz); (first | have hs := up3 hz | have hs := up2 hz | have hs := up1 hz | have hs := up0 hz); (try have q10 := hs _ q9); (try have q9 := hs _ q8); (try have q8 := hs _ q7); (try have q7 := hs _ q6); (try have q6 := hs _ q5); (try have q5 := hs _ q4); (try have q4 := hs _ q3); (try have q3 := hs _ q2); (try have q2 := hs _ q1); (try have p7 := hs _ p6); (try have p6 := hs _ p5); (try have p5 := hs _ p4); (try have p4 := hs _ p3); (try have p3 := hs _ p2); (try have p2 := hs _ p1); (try have q1 := new1 hz); (try have p1 := new2 hz); (try have r1 := new3 hz)
      go_wp2_with fail
      refine (DT.out A cap _ (HA.out.below (by repeat' (first | exact Below.refl _ _ | (refine Below.alloc ?_ ?_ _) | (refine Below.setCell ?_ ?_ _) | (refine Below.drew ?_) | (refine below_drewN ?_ _) | (refine Below.trans ?_ (Below.mono (by assumption) ?_)) | omega | (simp only [World.size_alloc, World.size_setCell, World.size_drew, size_drewN]; omega))))).mono ?_; rintro e w2 ⟨rfl, hb⟩
      go_wp2
      go_returns
      exact ⟨rfl, (by repeat' (first | exact Below.refl _ _ | (refine Below.alloc ?_ ?_ _) | (refine Below.setCell ?_ ?_ _) | (refine Below.drew ?_) | (refine below_drewN ?_ _) | (refine Below.trans ?_ (Below.mono (by assumption) ?_)) | omega | (simp only [World.size_alloc, World.size_setCell, World.size_drew, size_drewN]; omega)))⟩
  · have HR : Hid (detRes r c xs = (0, false)) := by rw [Hid, detRes, if_neg (by simp [hq])]
    rw [HR.out]
    go_enter Try.func12, Try.ntmps12
    go_wp2_with fail
    refine (specIsSquare r c A cap xs _ (SlI.below HA.out.2.2.2.2 (by repeat' (first | exact Below.refl _ _ | (refine Below.alloc ?_ ?_ _) | (refine Below.setCell ?_ ?_ _) | (refine Below.drew ?_) | (refine below_drewN ?_ _) | (refine Below.trans ?_ (Below.mono (by assumption) ?_)) | omega | (simp only [World.size_alloc, World.size_setCell, World.size_drew, size_drewN]; omega)))) hn).mono ?_; rintro e w1 ⟨rfl, hb⟩
    go_wp2
    go_returns
    exact ⟨rfl, (by repeat' (first | exact Below.refl _ _ | (refine Below.alloc ?_ ?_ _) | (refine Below.setCell ?_ ?_ _) | (refine Below.drew ?_) | (refine below_drewN ?_ _) | (refine Below.trans ?_ (Below.mono (by assumption) ?_)) | omega | (simp only [World.size_alloc, World.size_setCell, World.size_drew, size_drewN]; omega)))⟩
set_option maxHeartbeats 2000000 in
theorem implUnimod (r c : Int) (A : Option Addr) (cap : Nat) (xs : List Int) (w : World) (hA : Sl w A xs.length cap xs) (hn : xs.length ≤ 1048576) :
    Calls Try.prog 17 #[mv r c (.slice A xs.length cap)] w fun e w' => e = .returned (.bool (unimod r c xs)) ∧ Below w.heap.size w w' := by
  have HA := hide hA; clear hA
  have hd := @detRes_in r c xs
  have dt := fun w h => implDetOf r c A cap xs w h hn
  unfold unimod
  generalize detRes r c xs = p at *
  obtain ⟨D, K⟩ := p
  have DT : Hid (∀ w, Sl w A xs.length cap xs → Calls Try.prog 14 #[mv r c (.slice A xs.length cap)] w fun e w' => e = .returned (.tuple #[.int .i64 D, .bool K]) ∧ Below w.heap.size w w') := dt
  clear dt
  simp only at hd ⊢
  have hab : (D.natAbs == 1) = ((D.natAbs : Int) == 1) := by rw [Bool.eq_iff_iff]; simp; omega
  rw [hab]
  clear hab
  cases K
  · go_enter Try.func17, Try.ntmps17
    go_wp2_with fail
    refine (DT.out _ (HA.out.below (by repeat' (first | exact Below.refl _ _ | (refine Below.alloc ?_ ?_ _) | (refine Below.setCell ?_ ?_ _) | (refine Below.drew ?_) | (refine below_drewN ?_ _) | (refine Below.trans ?_ (Below.mono (by assumption) ?_)) | omega | (simp only [World.size_alloc, World.size_setCell, World.size_drew, size_drewN]; omega))))).mono ?_; rintro e w1 ⟨rfl, hb⟩
    go_wp2
    go_returns
    exact ⟨rfl, (by repeat' (first | exact Below.refl _ _ | (refine Below.alloc ?_ ?_ _) | (refine Below.setCell ?_ ?_ _) | (refine Below.drew ?_) | (refine below_drewN ?_ _) | (refine Below.trans ?_ (Below.mono (by assumption) ?_)) | omega | (simp only [World.size_alloc, World.size_setCell, World.size_drew, size_drewN]; omega)))⟩
  · go_enter Try.func17, Try.ntmps17
    go_wp2_with fail
    refine (DT.out _ (HA.out.below (by repeat' (first | exact Below.refl _ _ | (refine Below.alloc ?_ ?_ _) | (refine Below.setCell ?_ ?_ _) | (refine Below.drew ?_) | (refine below_drewN ?_ _) | (refine Below.trans ?_ (Below.mono (by assumption) ?_)) | omega | (simp only [World.size_alloc, World.size_setCell, World.size_drew, size_drewN]; omega))))).mono ?_; rintro e w1 ⟨rfl, hb⟩
    go_wp2_with (go_at_call 47; refine (absInt _ _ (by omega) (by omega)).mono ?_; rintro e w' ⟨rfl, rfl⟩)
    go_returns
    exact ⟨rfl, (by repeat' (first | exact Below.refl _ _ | (refine Below.alloc ?_ ?_ _) | (refine Below.setCell ?_ ?_ _) | (refine Below.drew ?_) | (refine below_drewN ?_ _) | (refine Below.trans ?_ (Below.mono (by assumption) ?_)) | omega | (simp only [World.size_alloc, World.size_setCell, World.size_drew, size_drewN]; omega)))⟩
set_option maxHeartbeats 2000000 in
theorem specUnimod (r c : Int) (A : Option Addr) (cap : Nat) (xs : List Int) (w : World) (hA : Sl w A xs.length cap xs) (hn : xs.length ≤ 1048576) :
    Calls Try.prog 16 #[mv r c (.slice A xs.length cap)] w fun e w' => e = .returned (.bool (unimod r c xs)) ∧ Below w.heap.size w w' := by
  have HA := hide hA; clear hA
  have hd := @detRes_in r c xs
  have dt := fun w h => specDetOf r c A cap xs w h hn
  unfold unimod
  generalize detRes r c xs = p at *
  obtain ⟨D, K⟩ := p
  have DT : Hid (∀ w, Sl w A xs.length cap xs → Calls Try.prog 12 #[mv r c (.slice A xs.length cap)] w fun e w' => e = .returned (.tuple #[.int .i64 D, .bool K]) ∧ Below w.heap.size w w') := dt
  clear dt
  simp only at hd ⊢
  have hab : (D.natAbs == 1) = ((D.natAbs : Int) == 1) := by rw [Bool.eq_iff_iff]; simp; omega
  rw [hab]
  clear hab
  cases K
  · go_enter Try.func16, Try.ntmps16
    go_wp2_with fail
    refine (DT.out _ (HA.out.below (by repeat' (first | exact Below.refl _ _ | (refine Below.alloc ?_ ?_ _) | (refine Below.setCell ?_ ?_ _) | (refine Below.drew ?_) | (refine below_drewN ?_ _) | (refine Below.trans ?_ (Below.mono (by assumption) ?_)) | omega | (simp only [World.size_alloc, World.size_setCell, World.size_drew, size_drewN]; omega))))).mono ?_; rintro e w1 ⟨rfl, hb⟩
    go_wp2
    go_returns
    exact ⟨rfl, (by repeat' (first | exact Below.refl _ _ | (refine Below.alloc ?_ ?_ _) | (refine Below.setCell ?_ ?_ _) | (refine Below.drew ?_) | (refine below_drewN ?_ _) | (refine Below.trans ?_ (Below.mono (by assumption) ?_)) | omega | (simp only [World.size_alloc, World.size_setCell, World.size_drew, size_drewN]; omega)))⟩
  · go_enter Try.func16, Try.ntmps16
    go_wp2_with fail
    refine (DT.out _ (HA.out.below (by repeat' (first | exact Below.refl _ _ | (refine Below.alloc ?_ ?_ _) | (refine Below.setCell ?_ ?_ _) | (refine Below.drew ?_) | (refine below_drewN ?_ _) | (refine Below.trans ?_ (Below.mono (by assumption) ?_)) | omega | (simp only [World.size_alloc, World.size_setCell, World.size_drew, size_drewN]; omega))))).mono ?_; rintro e w1 ⟨rfl, hb⟩
    go_wp2_with (go_at_call 46; refine (specAbs _ _ (by omega) (by omega)).mono ?_; rintro e w' ⟨rfl, rfl⟩)
    go_returns
    exact ⟨rfl, (by repeat' (first | exact Below.refl _ _ | (refine Below.alloc ?_ ?_ _) | (refine Below.setCell ?_ ?_ _) | (refine Below.drew ?_) | (refine below_drewN ?_ _) | (refine Below.trans ?_ (Below.mono (by assumption) ?_)) | omega | (simp only [World.size_alloc, World.size_setCell, World.size_drew, size_drewN]; omega)))⟩
end Go.Proofs.Ytchlaebkigmfgaa
