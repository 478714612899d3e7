/- Products of matrices can be grouped in any way and distribute over sums: plain law. -/
import Derived.Test.YtjopanbccfebnaaTurnL
import Derived.Test.YtjopanbccfebnaaAddW
import Derived.Test.YtjopanbccfebnaaScaleW
namespace Go.Proofs.Ytjopanbccfebnaa
open Go.RowKit
set_option linter.unusedSimpArgs false
set_option linter.unusedVariables false
theorem mulL_assoc {R C C' M : Nat} {us ys zs : List Int} : mulL R C' M (mulL R C C' us ys) zs = mulL R C M us (mulL C C' M ys zs) := by
  refine ofM_congr fun i j hi hj => ?_
  have e1 : ∀ k, k < C' → toM C' (mulL R C C' us ys) i k * toM M zs k j = Det.sum C (fun l => toM C us i l * (toM C' ys l k * toM M zs k j)) := fun k hk => by
    rw [mulL, toM_ofM _ hi hk]
    show Det.sum C _ * _ = _
    rw [← Det.sum_mulr]
    exact Det.sum_congr fun l _ => Int.mul_assoc _ _ _
  have e2 : ∀ l, l < C → toM C us i l * toM M (mulL C C' M ys zs) l j = Det.sum C' (fun k => toM C us i l * (toM C' ys l k * toM M zs k j)) := fun l hl => by
    rw [mulL, toM_ofM _ hl hj]
    show _ * Det.sum C' _ = _
    rw [← Det.sum_mul]
  show Det.sum C' (fun k => toM C' (mulL R C C' us ys) i k * toM M zs k j) = Det.sum C (fun l => toM C us i l * toM M (mulL C C' M ys zs) l j)
  rw [Det.sum_congr e1, Det.sum_congr e2, Det.sum_comm]
theorem adL_ofM {R C : Nat} {xs ys : List Int} (h : xs.length = R * C) : adL xs ys = ofM R C (fun i j => toM C xs i j + toM C ys i j) := by
  rw [adL, ofM, h]
  exact tab_congr fun p hp => by simp only [toM, (ix_of hp).2.2]
theorem mulL_dist {R C C' : Nat} {us ys : List Int} (h : ys.length = C * C') : mulL R C C' us (adL ys ys) = adL (mulL R C C' us ys) (mulL R C C' us ys) := by
  rw [adL_ofM (R := R) (C := C') (xs := mulL R C C' us ys) (by rw [mulL, ofM_length])]
  refine ofM_congr fun i j hi hj => ?_
  have e : toM C' (mulL R C C' us ys) i j = Det.sum C (fun l => toM C us i l * toM C' ys l j) := by rw [mulL, toM_ofM _ hi hj]; rfl
  rw [e, ← Det.sum_add]
  show Det.sum C _ = _
  refine Det.sum_congr fun l hl => ?_
  rw [adL_ofM h, toM_ofM _ hl hj, Int.mul_add]
theorem adL_scL (xs : List Int) : adL xs xs = scL xs 2 := by
  rw [adL, scL]
  exact tab_congr fun p _ => by omega
theorem ring_assoc {R C C' : Nat} {us ys X zs : List Int} {mr mc : Int} (h1 : isMat R C us = true) (h2 : isMat C C' ys = true) (hX : mulL R C C' us ys = X) (h3 : isMat R C' X = true)
    {Y Z W : MRes} (hY : mulRes R C' X mr mc zs = Y) (hZ : mulRes C C' ys mr mc zs = Z) (hW : mulRes R C us Z.R Z.C Z.L = W) (ky : Y.ok = true) (kz : Z.ok = true) (kw : W.ok = true) :
    sameB Y.R Y.C Y.L W.R W.C W.L = true := by
  rcases mul_cases R C' X mr mc zs with h | ⟨R1, C1, M, e1, e2, e3, e4, m1, m2, m3⟩
  · rw [h] at hY; subst hY; exact absurd ky (by simp [MRes.no])
  obtain rfl : R = R1 := by omega
  obtain rfl : C' = C1 := by omega
  subst e3; subst e4
  rw [mul_res h3 m2 m3] at hY
  rcases mul_cases C C' ys C' M zs with h | ⟨R2, C2, M2, f1, f2, f3, f4, n1, n2, n3⟩
  · rw [h] at hZ; subst hZ; exact absurd kz (by simp [MRes.no])
  obtain rfl : C = R2 := by omega
  obtain rfl : C' = C2 := by omega
  obtain rfl : M = M2 := by omega
  rw [mul_res h2 n2 n3] at hZ
  subst hZ
  rcases mul_cases R C us C M (mulL C C' M ys zs) with h | ⟨R3, C3, M3, g1, g2, g3, g4, o1, o2, o3⟩
  · rw [h] at hW; subst hW; exact absurd kw (by simp [MRes.no])
  obtain rfl : R = R3 := by omega
  obtain rfl : C = C3 := by omega
  obtain rfl : M = M3 := by omega
  rw [mul_res o1 o2 o3] at hW
  subst hW; subst hY; subst hX
  rw [mulL_assoc]
  exact same_mk
theorem add_res {R C : Nat} {xs : List Int} (h : isMat R C xs = true) {U : MRes} (hU : addRes R C xs R C xs = U) (k : U.ok = true) : U = ⟨R, C, adL xs xs, true⟩ ∧ isMat R C (adL xs xs) = true := by
  unfold addRes at hU
  split at hU
  · rename_i hh
    simp only [Bool.and_eq_true] at hh
    exact ⟨hU.symm, hh.2⟩
  · subst hU; exact absurd k (by simp [MRes.no])
theorem ring_dist {R C C' : Nat} {us ys X : List Int} (h1 : isMat R C us = true) (h2 : isMat C C' ys = true) (hX : mulL R C C' us ys = X) (h3 : isMat R C' X = true)
    {S T U V : MRes} (hS : addRes C C' ys C C' ys = S) (hT : mulRes R C us S.R S.C S.L = T) (hU : addRes R C' X R C' X = U) (hV : scRes R C' X 2 = V) (ks : S.ok = true) (kt : T.ok = true) (ku : U.ok = true) (kv : V.ok = true) :
    sameB T.R T.C T.L U.R U.C U.L = true ∧ sameB U.R U.C U.L V.R V.C V.L = true := by
  obtain ⟨eS, mS⟩ := add_res h2 hS ks
  obtain ⟨eU, mU⟩ := add_res h3 hU ku
  rw [eS] at hT
  have eT : T = ⟨R, C', mulL R C C' us (adL ys ys), true⟩ := by
    rcases mul_cases R C us C C' (adL ys ys) with h | ⟨R3, C3, M3, g1, g2, g3, g4, o1, o2, o3⟩
    · rw [h] at hT; subst hT; exact absurd kt (by simp [MRes.no])
    · obtain rfl : R = R3 := by omega
      obtain rfl : C = C3 := by omega
      obtain rfl : C' = M3 := by omega
      rw [mul_res o1 o2 o3] at hT
      exact hT.symm
  have eV : V = ⟨R, C', scL X 2, true⟩ := by
    unfold scRes at hV
    split at hV
    · exact hV.symm
    · subst hV; exact absurd kv (by simp [MRes.no])
  rw [eT, eU, eV]
  refine ⟨?_, ?_⟩
  · show sameB R C' (mulL R C C' us (adL ys ys)) R C' (adL X X) = true
    rw [mulL_dist (isMat_len h2), hX]
    exact same_mk
  · show sameB R C' (adL X X) R C' (scL X 2) = true
    rw [adL_scL]
    exact same_mk
end Go.Proofs.Ytjopanbccfebnaa
