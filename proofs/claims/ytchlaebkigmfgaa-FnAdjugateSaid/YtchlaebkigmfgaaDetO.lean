/- The determinant along the first row as both texts reckon it: none where a number is beyond the limit. -/
import Derived.Test.YtchlaebkigmfgaaCrossL
import Derived.Test.YtchlaebkigmfgaaFitW
namespace Go.Proofs.Ytchlaebkigmfgaa
open Go.RowKit
set_option linter.unusedSimpArgs false
set_option linter.unusedVariables false

/-- The first k summands. -/
def accO (rec : Det.Mat → Option Int) (M : Det.Mat) : Nat → Option Int
  | 0 => some 0
  | k + 1 => match accO rec M k with
    | none => none
    | some s => if M 0 k = 0 then some s else match rec (Det.minor M 0 k) with
      | none => none
      | some d => some (s + Det.sgn k * M 0 k * d)
def fitO : Option Int → Option Int
  | none => none
  | some s => if isNum s = true then some s else none
def detO : Nat → Det.Mat → Option Int
  | 0, _ => some 1
  | n + 1, M => fitO (accO (detO n) M (n + 1))
theorem accO_succ (rec : Det.Mat → Option Int) (M : Det.Mat) (k : Nat) : accO rec M (k + 1) = match accO rec M k with
    | none => none
    | some s => if M 0 k = 0 then some s else match rec (Det.minor M 0 k) with
      | none => none
      | some d => some (s + Det.sgn k * M 0 k * d) := rfl
theorem accO_zero {rec : Det.Mat → Option Int} {M : Det.Mat} {k : Nat} (h : M 0 k = 0) : accO rec M (k + 1) = accO rec M k := by
  rw [accO_succ]
  cases accO rec M k with
  | none => rfl
  | some s => simp [h]
theorem accO_none {rec : Det.Mat → Option Int} {M : Det.Mat} {k n : Nat} (h : accO rec M k = none) (hk : k ≤ n) : accO rec M n = none := by
  induction n with
  | zero => have : k = 0 := by omega
            subst this; exact h
  | succ n ih =>
    by_cases e : k = n + 1
    · subst e; exact h
    · rw [accO_succ, ih (by omega)]
theorem accO_bad {rec : Det.Mat → Option Int} {M : Det.Mat} {k n : Nat} (h : M 0 k ≠ 0) (hr : rec (Det.minor M 0 k) = none) (hk : k < n) : accO rec M n = none := by
  refine accO_none (k := k + 1) ?_ hk
  rw [accO_succ]
  cases accO rec M k with
  | none => rfl
  | some s => simp [h, hr]
theorem accO_some {rec : Det.Mat → Option Int} {M : Det.Mat} {k : Nat} {s d : Int} (hs : accO rec M k = some s) (h : M 0 k ≠ 0) (hr : rec (Det.minor M 0 k) = some d) : accO rec M (k + 1) = some (s + Det.sgn k * M 0 k * d) := by
  rw [accO_succ, hs]
  simp [h, hr]
theorem accO_congr {r r' : Det.Mat → Option Int} {M N : Det.Mat} {n : Nat} (h : ∀ j, j < n → M 0 j = N 0 j) (hr : ∀ j, j < n → r (Det.minor M 0 j) = r' (Det.minor N 0 j)) : accO r M n = accO r' N n := by
  induction n with
  | zero => rfl
  | succ n ih => rw [accO_succ, accO_succ, ih (fun j hj => h j (by omega)) (fun j hj => hr j (by omega)), h n (by omega), hr n (by omega)]
theorem detO_congr {n : Nat} {M N : Det.Mat} (h : ∀ i j, i < n → j < n → M i j = N i j) : detO n M = detO n N := by
  induction n generalizing M N with
  | zero => rfl
  | succ n ih =>
    rw [detO, detO, accO_congr (n := n + 1) (fun j hj => h 0 j (by omega) hj) (fun j hj => ih (fun a b ha hb => h _ _ (Det.skip_lt ha) (Det.skip_lt hb)))]
theorem fitO_some {o : Option Int} {d : Int} (h : fitO o = some d) : o = some d ∧ isNum d = true := by
  cases o with
  | none => cases h
  | some s =>
    simp only [fitO] at h
    split at h
    · rename_i h1
      simp only [Option.some.injEq] at h
      subst h
      exact ⟨rfl, h1⟩
    · cases h
theorem detO_num {n : Nat} {M : Det.Mat} {d : Int} (h : detO n M = some d) : isNum d = true := by
  cases n with
  | zero => simp only [detO, Option.some.injEq] at h; subst h; decide
  | succ n => exact (fitO_some h).2
theorem accO_det {n k : Nat} {M : Det.Mat} {s : Int} (ih : ∀ (N : Det.Mat) (d : Int), detO n N = some d → d = Det.det n N) (h : accO (detO n) M k = some s) : s = Det.sum k fun j => Det.sgn j * M 0 j * Det.det n (Det.minor M 0 j) := by
  induction k generalizing s with
  | zero => simp only [accO, Option.some.injEq] at h; subst h; rfl
  | succ k ih2 =>
    rw [accO_succ] at h
    rw [Det.sum]
    cases h1 : accO (detO n) M k with
    | none => rw [h1] at h; cases h
    | some t =>
      rw [h1] at h
      simp only at h
      have ht := ih2 h1
      by_cases h0 : M 0 k = 0
      · rw [if_pos h0] at h
        simp only [Option.some.injEq] at h
        rw [h0, ← ht, ← h]; simp
      · rw [if_neg h0] at h
        cases h2 : detO n (Det.minor M 0 k) with
        | none => rw [h2] at h; cases h
        | some d =>
          rw [h2] at h
          simp only [Option.some.injEq] at h
          rw [← h, ← ht, ih _ _ h2]
theorem detO_det {n : Nat} : ∀ {M : Det.Mat} {d : Int}, detO n M = some d → d = Det.det n M := by
  induction n with
  | zero => intro M d h; simp only [detO, Option.some.injEq] at h; exact h.symm
  | succ n ih =>
    intro M d h
    rw [Det.det]
    exact accO_det (fun N e hN => ih hN) (fitO_some h).1
/-- A partial sum is small. -/
theorem accO_in {n k : Nat} {M : Det.Mat} {s : Int} (hM : ∀ j, j < k → isNum (M 0 j) = true) (h : accO (detO n) M k = some s) : (s.natAbs : Int) ≤ (k : Int) * 160000000000000000 := by
  induction k generalizing s with
  | zero => simp only [accO, Option.some.injEq] at h; subst h; decide
  | succ k ih =>
    rw [accO_succ] at h
    cases h1 : accO (detO n) M k with
    | none => rw [h1] at h; cases h
    | some t =>
      rw [h1] at h
      simp only at h
      have ht := ih (fun j hj => hM j (by omega)) h1
      have hk : ((k + 1 : Nat) : Int) * 160000000000000000 = (k : Int) * 160000000000000000 + 160000000000000000 := by omega
      rw [hk]
      by_cases h0 : M 0 k = 0
      · rw [if_pos h0] at h
        simp only [Option.some.injEq] at h
        subst h; omega
      · rw [if_neg h0] at h
        cases h2 : detO n (Det.minor M 0 k) with
        | none => rw [h2] at h; cases h
        | some d =>
          rw [h2] at h
          simp only [Option.some.injEq] at h
          have hd := isNum_t (detO_num h2)
          have hm := isNum_t (hM k (by omega))
          have hp : (M 0 k * d).natAbs ≤ 160000000000000000 := by
            rw [Int.natAbs_mul]; exact Nat.mul_le_mul (show (M 0 k).natAbs ≤ 400000000 by omega) (show d.natAbs ≤ 400000000 by omega)
          have hs : (Det.sgn k * M 0 k * d).natAbs = (M 0 k * d).natAbs := by
            rw [Int.mul_assoc, Int.natAbs_mul]
            have : (Det.sgn k).natAbs = 1 := by unfold Det.sgn; split <;> rfl
            rw [this, Nat.one_mul]
          omega
/-- The mark of none. -/
def markO : Option Int → Int
  | none => badN
  | some d => d
theorem markO_fit (s : Int) : markO (fitO (some s)) = fitN s := by
  simp only [fitO, fitN]
  split <;> rfl
theorem markO_bad {o : Option Int} (h : ∀ d, o = some d → isNum d = true) : markO o = badN ↔ o = none := by
  cases o with
  | none => simp [markO]
  | some d =>
    have := num_ne (h d rfl)
    simp [markO, this]
/-- The determinant of a list of cells. -/
def detL (n : Nat) (xs : List Int) : Option Int := detO n (toM n xs)
theorem detL_cross {n j : Nat} {xs : List Int} : detL n (crossL (n + 1) (n + 1) 0 j xs) = detO n (Det.minor (toM (n + 1) xs) 0 j) := by
  rw [detL]
  exact detO_congr fun a b ha hb => toM_ofM _ ha hb
theorem crossL_num {n i j : Nat} {xs : List Int} (h : xs.all isNum = true) (hl : xs.length = (n + 1) * (n + 1)) (_hi : i < n + 1) (_hj : j < n + 1) : (crossL (n + 1) (n + 1) i j xs).all isNum = true := by
  rw [crossL, ofM, tab_all]
  intro p hp
  have hq := ix_of hp
  simp only [Nat.add_sub_cancel] at hq ⊢
  simp only [Det.minor, toM]
  have hlt : Det.skip i (p / n) * (n + 1) + Det.skip j (p % n) < xs.length := by rw [hl]; exact ix_lt (Det.skip_lt hq.1) (Det.skip_lt hq.2.1)
  rw [List.all_eq_true] at h
  refine h _ ?_
  simp only [List.getD, List.getElem?_eq_getElem hlt, Option.getD_some]
  exact List.getElem_mem hlt
theorem all_getD {xs : List Int} (h : xs.all isNum = true) {k : Nat} (hk : k < xs.length) : isNum (xs.getD k 0) = true := by
  rw [List.all_eq_true] at h
  refine h _ ?_
  simp only [List.getD, List.getElem?_eq_getElem hk, Option.getD_some]
  exact List.getElem_mem hk
end Go.Proofs.Ytchlaebkigmfgaa
