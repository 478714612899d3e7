/- The row operations in plain maths: what becomes of the cells. -/
import Derived.Test.YthbmmoajfghjbaaTab
import Derived.Test.YthbmmoajfghjbaaScaleL
namespace Go.Proofs.Ythbmmoajfghjbaa
set_option linter.unusedSimpArgs false
set_option linter.unusedVariables false

/-- The matrix behind an operation. -/
def opNew (kind i j : Nat) (t : Int) (M : Det.Mat) : Det.Mat := fun a b =>
  if kind = 0 then (if a = i then M j b else if a = j then M i b else M a b)
  else if kind = 1 then (if a = i then - M i b else M a b)
  else (if a = i then M i b + M j b * t else M a b)
/-- The first k columns are done. -/
def opTo (C kind i j : Nat) (t : Int) (xs : List Int) (k : Nat) : Nat → Int := fun p => if p % C < k then opNew kind i j t (toM C xs) (p / C) (p % C) else xs.getD p 0
def opL (R C kind i j : Nat) (t : Int) (xs : List Int) : List Int := ofM R C (opNew kind i j t (toM C xs))
theorem opTo_start {R C kind i j : Nat} {t : Int} {xs : List Int} (h : xs.length = R * C) : xs = tab (R * C) (opTo C kind i j t xs 0) := by
  rw [show tab (R * C) (opTo C kind i j t xs 0) = tab xs.length (fun p => xs.getD p 0) from by rw [h]; exact tab_congr fun p _ => by simp [opTo], tab_self]
theorem opTo_end {R C kind i j : Nat} {t : Int} {xs : List Int} : tab (R * C) (opTo C kind i j t xs C) = opL R C kind i j t xs :=
  tab_congr fun p hp => by
    have := (ix_of hp).2.1
    simp only [opTo]
    rw [if_pos this]
theorem opTo_at {C kind i j k a : Nat} {t : Int} {xs : List Int} (hk : k < C) : opTo C kind i j t xs k (a * C + k) = xs.getD (a * C + k) 0 := by
  simp only [opTo, ix_mod hk]
  rw [if_neg (by omega)]
/-- A column in which nothing but the cell of row i turns. -/
theorem opTo_one {R C kind i j k : Nat} {t v : Int} {xs : List Int} (hi : i < R) (hk : k < C) (h0 : kind ≠ 0) (hv : v = opNew kind i j t (toM C xs) i k) :
    (tab (R * C) (opTo C kind i j t xs k)).set (i * C + k) v = tab (R * C) (opTo C kind i j t xs (k + 1)) := by
  refine tab_set (fun _ => ?_) (fun p hp hne => ?_)
  · simp only [opTo, ix_mod hk, ix_div hk]
    rw [if_pos (by omega), hv]
  · have h := ix_of hp
    simp only [opTo]
    by_cases h1 : p % C < k
    · rw [if_pos h1, if_pos (by omega)]
    · rw [if_neg h1]
      by_cases h2 : p % C = k
      · rw [if_pos (by omega)]
        have h3 : p / C ≠ i := fun e => hne (by rw [← h.2.2, e, h2])
        have h4 : opNew kind i j t (toM C xs) (p / C) (p % C) = toM C xs (p / C) (p % C) := by
          simp only [opNew, if_neg h0, if_neg h3, ite_self]
        rw [h4, toM, h.2.2]
      · rw [if_neg (by omega)]
/-- A column of an exchange. -/
def swTo (C i j : Nat) (xs : List Int) (k : Nat) : Nat → Int := fun p => if p = i * C + k then xs.getD (j * C + k) 0 else opTo C 0 i j 0 xs k p
theorem swTo_first {R C i j k : Nat} {xs : List Int} : (tab (R * C) (opTo C 0 i j 0 xs k)).set (i * C + k) (xs.getD (j * C + k) 0) = tab (R * C) (swTo C i j xs k) :=
  tab_set (fun _ => by simp [swTo]) (fun p hp hne => by simp [swTo, hne])
theorem swTo_second {R C i j k : Nat} {xs : List Int} (hij : i ≠ j) (hk : k < C) : (tab (R * C) (swTo C i j xs k)).set (j * C + k) (xs.getD (i * C + k) 0) = tab (R * C) (opTo C 0 i j 0 xs (k + 1)) := by
  refine tab_set (fun _ => ?_) (fun p hp hne => ?_)
  · simp only [opTo, ix_mod hk, ix_div hk, opNew, toM]
    rw [if_pos (by omega)]
    simp [Ne.symm hij]
  · have h := ix_of hp
    simp only [swTo, opTo]
    by_cases h0 : p = i * C + k
    · subst h0
      simp only [ix_mod hk, ix_div hk, opNew, toM]
      rw [if_pos (by omega)]
      simp
    · rw [if_neg h0]
      by_cases h1 : p % C < k
      · rw [if_pos h1, if_pos (by omega)]
      · rw [if_neg h1]
        by_cases h2 : p % C = k
        · rw [if_pos (by omega)]
          have h3 : p / C ≠ i := fun e => h0 (by rw [← h.2.2, e, h2])
          have h4 : p / C ≠ j := fun e => hne (by rw [← h.2.2, e, h2])
          simp only [opNew, if_true, if_neg h3, if_neg h4, toM, h.2.2]
        · rw [if_neg (by omega)]
end Go.Proofs.Ythbmmoajfghjbaa
