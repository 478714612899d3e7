/- The product turned over: plain law. -/
import Derived.Test.YtchlaebkigmfgaaMulW
import Derived.Test.YtchlaebkigmfgaaMatL
import Derived.Test.YtchlaebkigmfgaaTurnW
import Derived.Test.YtchlaebkigmfgaaSameW
namespace Go.Proofs.Ytchlaebkigmfgaa
open Go.RowKit
set_option linter.unusedSimpArgs false
set_option linter.unusedVariables false
theorem tr_isMat {R C : Nat} {xs : List Int} (h : isMat R C xs = true) : isMat C R (ofM C R (Det.tr (toM C xs))) = true := by
  obtain ⟨_, h1, _, h2, _, _, _⟩ := isMat_t h
  exact isMat_ofM.2 ⟨by omega, by omega, fun i j hi hj => isMat_cells h j i hj hi⟩
theorem tr_res {R C : Nat} {xs : List Int} (h : isMat R C xs = true) : trRes R C xs = ⟨C, R, ofM C R (Det.tr (toM C xs)), true⟩ := by
  rw [trRes, if_pos h]; rfl
theorem tr_tr {R C : Nat} {xs : List Int} (h : isMat R C xs = true) : ofM R C (Det.tr (toM R (ofM C R (Det.tr (toM C xs))))) = xs := by
  conv => rhs; rw [← ofM_toM (isMat_len h)]
  refine ofM_congr fun i j hi hj => ?_
  show toM R (ofM C R (Det.tr (toM C xs))) j i = _
  rw [toM_ofM _ hj hi]; rfl
theorem mul_tr {R C C' : Nat} {xs ys : List Int} : mulL C' C R (ofM C' C (Det.tr (toM C' ys))) (ofM C R (Det.tr (toM C xs))) = ofM C' R (Det.tr (toM C' (mulL R C C' xs ys))) := by
  refine ofM_congr fun i j hi hj => ?_
  show Det.sum C _ = toM C' (ofM R C' _) j i
  rw [toM_ofM _ hj hi]
  refine Det.sum_congr fun k hk => ?_
  rw [toM_ofM _ hi hk, toM_ofM _ hk hj, Int.mul_comm]; rfl
theorem mul_res {R C C' : Nat} {xs ys : List Int} (h1 : isMat R C xs = true) (h2 : isMat C C' ys = true) (h3 : isMat R C' (mulL R C C' xs ys) = true) : mulRes R C xs C C' ys = ⟨R, C', mulL R C C' xs ys, true⟩ := by
  rw [mulRes, if_pos (by simp only [mulIn, Bool.and_eq_true, decide_eq_true_eq]; exact ⟨⟨⟨h1, h2⟩, trivial⟩, h3⟩)]; rfl
theorem turn_mul {R C C' : Nat} {xs ys X Y P Q : List Int} (h1 : isMat R C xs = true) (h2 : isMat C C' ys = true) (hX : mulL R C C' xs ys = X) (h3 : isMat R C' X = true)
    (hY : ofM C' R (Det.tr (toM C' X)) = Y) (hP : ofM C R (Det.tr (toM C xs)) = P) (hQ : ofM C' C (Det.tr (toM C' ys)) = Q) :
    mulRes R C xs C C' ys = ⟨R, C', X, true⟩ ∧ trRes R C' X = ⟨C', R, Y, true⟩ ∧ trRes R C xs = ⟨C, R, P, true⟩ ∧ trRes C C' ys = ⟨C', C, Q, true⟩ ∧ mulRes C' C Q C R P = ⟨C', R, Y, true⟩ ∧ trRes C' R Y = ⟨R, C', X, true⟩ ∧
      (X.length ≤ 576 ∧ Y.length ≤ 576 ∧ P.length ≤ 576 ∧ Q.length ≤ 576) := by
  have hYm : isMat C' R Y = true := by rw [← hY]; exact tr_isMat h3
  have hPm : isMat C R P = true := by rw [← hP]; exact tr_isMat h1
  have hQm : isMat C' C Q = true := by rw [← hQ]; exact tr_isMat h2
  have hYY : mulL C' C R Q P = Y := by rw [← hQ, ← hP, ← hY, ← hX]; exact mul_tr
  refine ⟨?_, ?_, ?_, ?_, ?_, ?_, (isMat_t h3).2.2.2.2.2.2, (isMat_t hYm).2.2.2.2.2.2, (isMat_t hPm).2.2.2.2.2.2, (isMat_t hQm).2.2.2.2.2.2⟩
  · rw [mul_res h1 h2 (by rw [hX]; exact h3), hX]
  · rw [tr_res h3, hY]
  · rw [tr_res h1, hP]
  · rw [tr_res h2, hQ]
  · rw [mul_res hQm hPm (by rw [hYY]; exact hYm), hYY]
  · rw [tr_res hYm, ← hY, tr_tr h3]
theorem mul_cases (r c : Int) (xs : List Int) (r' c' : Int) (ys : List Int) : mulRes r c xs r' c' ys = .no ∨ ∃ R C C' : Nat, r = R ∧ c = C ∧ r' = C ∧ c' = C' ∧ isMat R C xs = true ∧ isMat C C' ys = true ∧ isMat R C' (mulL R C C' xs ys) = true := by
  by_cases h : (mulIn r c xs r' c' ys && isMat r c' (mulL r.toNat c.toNat c'.toNat xs ys)) = true
  · refine .inr ?_
    simp only [mulIn, Bool.and_eq_true, decide_eq_true_eq] at h
    obtain ⟨⟨⟨h1, h2⟩, rfl⟩, h3⟩ := h
    obtain ⟨a1, _, a3, _⟩ := isMat_t h1
    obtain ⟨_, _, b3, _⟩ := isMat_t h2
    obtain ⟨R, rfl⟩ := Int.eq_ofNat_of_zero_le a1
    obtain ⟨C, rfl⟩ := Int.eq_ofNat_of_zero_le a3
    obtain ⟨C', rfl⟩ := Int.eq_ofNat_of_zero_le b3
    exact ⟨R, C, C', rfl, rfl, rfl, rfl, h1, h2, h3⟩
  · exact .inl (by rw [mulRes, if_neg h])
end Go.Proofs.Ytchlaebkigmfgaa
