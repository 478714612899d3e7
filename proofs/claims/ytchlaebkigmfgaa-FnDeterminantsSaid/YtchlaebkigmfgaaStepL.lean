/- Elimination without fractions in plain maths: what both texts reckon, and that it is the determinant. -/
import Derived.Test.YtchlaebkigmfgaaTab
import Derived.Test.YtchlaebkigmfgaaNum
namespace Go.Proofs.Ytchlaebkigmfgaa
set_option linter.unusedSimpArgs false
set_option linter.unusedVariables false
open Go.RowKit Det

/-- The first row from p on (so many are left) with a number that is not 0 in column t. -/
def pivF (M : Mat) (t : Nat) : Nat → Nat → Option Nat
  | 0, _ => none
  | f + 1, p => if M p t = 0 then pivF M t f (p + 1) else some p
def pivO (n : Nat) (M : Mat) (t : Nat) : Option Nat := pivF M t (n - t) t
theorem pivF_none {M : Mat} {t : Nat} : ∀ {f p : Nat}, pivF M t f p = none → ∀ q, p ≤ q → q < p + f → M q t = 0 := by
  intro f
  induction f with
  | zero => intro p _ q h1 h2; omega
  | succ f ih =>
    intro p h q h1 h2
    rw [pivF] at h
    split at h
    · by_cases e : q = p
      · subst e; assumption
      · exact ih h q (by omega) (by omega)
    · cases h
theorem pivF_some {M : Mat} {t : Nat} : ∀ {f p q : Nat}, pivF M t f p = some q → p ≤ q ∧ q < p + f ∧ M q t ≠ 0 := by
  intro f
  induction f with
  | zero => intro p q h; cases h
  | succ f ih =>
    intro p q h
    rw [pivF] at h
    split at h
    · have := ih h; exact ⟨by omega, by omega, this.2.2⟩
    · simp only [Option.some.injEq] at h
      subst h
      exact ⟨Nat.le_refl _, by omega, by assumption⟩
theorem pivF_next {M : Mat} {t n p : Nat} (hp : p < n) (h : M p t = 0) : pivF M t (n - (p + 1)) (p + 1) = pivF M t (n - p) p := by
  rw [show n - p = n - (p + 1) + 1 from by omega, pivF, if_pos h]
theorem pivF_here {M : Mat} {t n p : Nat} (hp : p < n) (h : M p t ≠ 0) : pivF M t (n - p) p = some p := by
  rw [show n - p = n - (p + 1) + 1 from by omega, pivF, if_neg h]
theorem pivF_end {M : Mat} {t n : Nat} : pivF M t (n - n) n = none := by rw [Nat.sub_self, pivF]

/-- The new cell (a, b) of step t. -/
def stepV (t : Nat) (before : Int) (M : Mat) (a b : Nat) : Int := (M a b * M t t - M a t * M t b).tdiv before
/-- Step t, done up to row i and there up to column j. -/
def stTo (t : Nat) (before : Int) (M : Mat) (i j : Nat) : Mat := fun a b => if t < a ∧ t < b ∧ (a < i ∨ (a = i ∧ b < j)) then stepV t before M a b else M a b
def stepM (t : Nat) (before : Int) (M : Mat) : Mat := fun a b => if t < a ∧ t < b then stepV t before M a b else M a b
def stepOk (n t : Nat) (before : Int) (M : Mat) : Prop := ∀ a b, t < a → a < n → t < b → b < n → isNum (stepV t before M a b) = true
theorem stTo_start (t : Nat) (before : Int) (M : Mat) (j : Nat) (hj : j ≤ t + 1) : stTo t before M (t + 1) j = M := by
  funext a b
  simp only [stTo]
  rw [if_neg (by omega)]
theorem stTo_row {n t i : Nat} {before : Int} {M : Mat} {a b : Nat} (hb : b < n) : stTo t before M i n a b = stTo t before M (i + 1) (t + 1) a b := by
  simp only [stTo]
  by_cases h : t < a ∧ t < b ∧ (a < i ∨ (a = i ∧ b < n))
  · rw [if_pos h, if_pos (by omega)]
  · rw [if_neg h, if_neg (by omega)]
theorem stTo_end {n t : Nat} {before : Int} {M : Mat} {a b : Nat} (ha : a < n) (j : Nat) : stTo t before M n j a b = stepM t before M a b := by
  simp only [stTo, stepM]
  by_cases h : t < a ∧ t < b
  · rw [if_pos h, if_pos (by omega)]
  · rw [if_neg h, if_neg (by omega)]
theorem stTo_at {t i j : Nat} {before : Int} {M : Mat} : stTo t before M i j i j = M i j := by
  simp only [stTo]; rw [if_neg (by omega)]
theorem stTo_col {t i j a : Nat} {before : Int} {M : Mat} : stTo t before M i j a t = M a t := by
  simp only [stTo]; rw [if_neg (by omega)]
theorem stTo_top {t i j b : Nat} {before : Int} {M : Mat} : stTo t before M i j t b = M t b := by
  simp only [stTo]; rw [if_neg (by omega)]
theorem stTo_set {n t i j : Nat} {before : Int} {M : Mat} (_hi : i < n) (hj : j < n) (hti : t < i) (htj : t < j) :
    (ofM n n (stTo t before M i j)).set (i * n + j) (stepV t before M i j) = ofM n n (stTo t before M i (j + 1)) := by
  refine tab_set (fun _ => ?_) (fun p hp hne => ?_)
  · simp only [ix_div hj, ix_mod hj, stTo]
    rw [if_pos ⟨hti, htj, .inr (by simp)⟩]
  · have h := ix_of hp
    have hne' : ¬ (p / n = i ∧ p % n = j) := fun e => hne (by rw [← h.2.2, e.1, e.2])
    simp only [stTo]
    generalize p / n = a at *
    generalize p % n = b at *
    by_cases hc : t < a ∧ t < b ∧ (a < i ∨ (a = i ∧ b < j))
    · rw [if_pos hc, if_pos (by omega)]
    · rw [if_neg hc, if_neg (by omega)]

open Classical in
/-- f steps from step t on. -/
noncomputable def stepsR (n : Nat) : Nat → Nat → Mat → Int → Int → Int × Bool
  | 0, _, _, sign, before => (sign * before, true)
  | f + 1, t, M, sign, before => match pivO n M t with
    | none => (0, true)
    | some p =>
      if stepOk n t before (if p = t then M else Alt.swap M p t) then
        stepsR n f (t + 1) (stepM t before (if p = t then M else Alt.swap M p t)) (if p = t then sign else -sign) ((if p = t then M else Alt.swap M p t) t t)
      else (0, false)
theorem stepsR_none {n f t : Nat} {M : Mat} {sign before : Int} (h : pivO n M t = none) : stepsR n (f + 1) t M sign before = (0, true) := by
  rw [stepsR, h]
theorem stepsR_bad {n f t p : Nat} {M N : Mat} {sign before : Int} (h : pivO n M t = some p) (hN : N = if p = t then M else Alt.swap M p t) (hb : ¬ stepOk n t before N) : stepsR n (f + 1) t M sign before = (0, false) := by
  rw [stepsR, h]
  simp only
  rw [← hN, if_neg hb]
theorem stepsR_go {n f t p : Nat} {M N : Mat} {sign before : Int} (h : pivO n M t = some p) (hN : N = if p = t then M else Alt.swap M p t) (hb : stepOk n t before N) : stepsR n (f + 1) t M sign before = stepsR n f (t + 1) (stepM t before N) (if p = t then sign else -sign) (N t t) := by
  rw [stepsR, h]
  simp only
  rw [← hN, if_pos hb]
theorem pivF_congr {n t : Nat} {M N : Mat} (h : ∀ i j, i < n → j < n → M i j = N i j) (ht : t < n) : ∀ f p, p + f = n → pivF M t f p = pivF N t f p := by
  intro f
  induction f with
  | zero => intro p _; rfl
  | succ f ih =>
    intro p hp
    rw [pivF, pivF, h p t (by omega) ht, ih (p + 1) (by omega)]
theorem stepsR_congr {n : Nat} : ∀ {f t : Nat} {M N : Mat} {sign before : Int}, (∀ i j, i < n → j < n → M i j = N i j) → t + f = n → stepsR n f t M sign before = stepsR n f t N sign before := by
  intro f
  induction f with
  | zero => intro t M N sign before _ _; rfl
  | succ f ih =>
    intro t M N sign before h hf
    have hp : pivO n M t = pivO n N t := pivF_congr h (by omega) _ _ (by omega)
    cases hq : pivO n M t with
    | none => rw [stepsR_none hq, stepsR_none (hp ▸ hq)]
    | some p =>
      have hq' : pivO n N t = some p := hp ▸ hq
      have hlt := pivF_some hq
      obtain ⟨M', hM⟩ : ∃ M', M' = if p = t then M else Alt.swap M p t := ⟨_, rfl⟩
      obtain ⟨N', hN⟩ : ∃ N', N' = if p = t then N else Alt.swap N p t := ⟨_, rfl⟩
      have h' : ∀ i j, i < n → j < n → M' i j = N' i j := by
        intro i j hi hj
        rw [hM, hN]
        by_cases e : p = t
        · rw [if_pos e, if_pos e]; exact h i j hi hj
        · rw [if_neg e, if_neg e]
          simp only [Alt.swap, setRow]
          by_cases e1 : i = t
          · rw [if_pos e1, if_pos e1]; exact h p j (by omega) hj
          · rw [if_neg e1, if_neg e1]
            by_cases e2 : i = p
            · rw [if_pos e2, if_pos e2]; exact h t j (by omega) hj
            · rw [if_neg e2, if_neg e2]; exact h i j hi hj
      have hv : ∀ a b, a < n → b < n → stepV t before M' a b = stepV t before N' a b := by
        intro a b ha hb
        simp only [stepV]
        rw [h' a b ha hb, h' t t (by omega) (by omega), h' a t ha (by omega), h' t b (by omega) hb]
      by_cases ho : stepOk n t before M'
      · have ho' : stepOk n t before N' := fun a b h1 h2 h3 h4 => by rw [← hv a b h2 h4]; exact ho a b h1 h2 h3 h4
        rw [stepsR_go hq hM ho, stepsR_go hq' hN ho', h' t t (by omega) (by omega)]
        refine ih (fun i j hi hj => ?_) (by omega)
        simp only [stepM]
        rw [hv i j hi hj, h' i j hi hj]
      · have ho' : ¬ stepOk n t before N' := fun hh => ho fun a b h1 h2 h3 h4 => by rw [hv a b h2 h4]; exact hh a b h1 h2 h3 h4
        rw [stepsR_bad hq hM ho, stepsR_bad hq' hN ho']

/-- Bareiss. -/
theorem stepsR_det {n : Nat} : ∀ {f t : Nat} {M P : Mat} {sign before D d : Int}, t + f = n → sign * det n P = D → before = det t P → before ≠ 0 →
    (∀ i j, t ≤ i → i < n → t ≤ j → j < n → M i j = bdet P t i j) → stepsR n f t M sign before = (d, true) → d = D := by
  intro f
  induction f with
  | zero =>
    intro t M P sign before D d hf hD hb _ _ h
    have : t = n := by omega
    subst this
    simp only [stepsR, Prod.mk.injEq, and_true] at h
    rw [← h, ← hD, hb]
  | succ f ih =>
    intro t M P sign before D d hf hD hb hb0 hM h
    cases hq : pivO n M t with
    | none =>
      rw [stepsR_none hq] at h
      have hz := pivF_none hq
      have h0 : det n P = 0 := det_no_pivot P t n (by omega) (by rw [← hb]; exact hb0) (fun i h1 h2 => by rw [← hM i t h1 h2 (Nat.le_refl _) (by omega)]; exact hz i h1 (by omega))
      simp only [Prod.mk.injEq, and_true] at h
      rw [← h, ← hD, h0]; simp
    | some p =>
      obtain ⟨p1, p2, p3⟩ := pivF_some hq
      have p2' : p < n := by omega
      obtain ⟨N, hN⟩ : ∃ N, N = if p = t then M else Alt.swap M p t := ⟨_, rfl⟩
      obtain ⟨P', hP⟩ : ∃ P', P' = if p = t then P else Alt.swap P t p := ⟨_, rfl⟩
      obtain ⟨s', hs⟩ : ∃ s', s' = if p = t then sign else -sign := ⟨_, rfl⟩
      have hD' : s' * det n P' = D := by
        rw [hs, hP]
        by_cases e : p = t
        · rw [if_pos e, if_pos e]; exact hD
        · rw [if_neg e, if_neg e, (det_alt n).swapped P t p (by omega) p2' (fun x => e x.symm), Int.neg_mul_neg]; exact hD
      have hb' : before = det t P' := by
        rw [hP]
        by_cases e : p = t
        · rw [if_pos e]; exact hb
        · rw [if_neg e, det_lead_swap P t p p1]; exact hb
      have hM' : ∀ i j, t ≤ i → i < n → t ≤ j → j < n → N i j = bdet P' t i j := by
        intro i j h1 h2 h3 h4
        rw [hN, hP]
        by_cases e : p = t
        · rw [if_pos e, if_pos e]; exact hM i j h1 h2 h3 h4
        · rw [if_neg e, if_neg e, bdet_swap P t p i j p1 h1]
          simp only [Alt.swap, setRow]
          by_cases e1 : i = t
          · rw [if_pos e1, if_pos e1]; exact hM p j p1 p2' h3 h4
          · rw [if_neg e1, if_neg e1]
            by_cases e2 : i = p
            · rw [if_pos e2, if_pos e2]; exact hM t j (Nat.le_refl _) (by omega) h3 h4
            · rw [if_neg e2, if_neg e2]; exact hM i j h1 h2 h3 h4
      have hpiv : N t t ≠ 0 := by
        rw [hN]
        by_cases e : p = t
        · subst e; rw [if_pos rfl]; exact p3
        · rw [if_neg e]; simp only [Alt.swap, setRow, if_true]; exact p3
      have h0 : det t P' ≠ 0 := by rw [← hb']; exact hb0
      by_cases ho : stepOk n t before N
      · rw [stepsR_go hq hN ho, ← hs] at h
        refine ih (P := P') (by omega) hD' ?_ hpiv ?_ h
        · rw [hM' t t (Nat.le_refl _) (by omega) (Nat.le_refl _) (by omega), bdet_own]
        · intro i j h1 h2 h3 h4
          simp only [stepM, stepV]
          rw [if_pos (by omega), hM' i j (by omega) h2 (by omega) h4, hM' t t (Nat.le_refl _) (by omega) (Nat.le_refl _) (by omega), hM' i t (by omega) h2 (Nat.le_refl _) (by omega), hM' t j (Nat.le_refl _) (by omega) (by omega) h4,
            ← bdet_step P' t i j h0, hb', Int.mul_tdiv_cancel_left _ h0]
      · rw [stepsR_bad hq hN ho] at h
        simp at h
noncomputable def stepsL (n : Nat) (xs : List Int) : Int × Bool := stepsR n n 0 (toM n xs) 1 1
theorem stepsL_det {n : Nat} {xs : List Int} {d : Int} (h : stepsL n xs = (d, true)) : d = det n (toM n xs) := by
  refine stepsR_det (P := toM n xs) (t := 0) (by omega) (by rw [Int.one_mul]) (by rfl) (by decide) (fun i j _ _ _ _ => ?_) h
  simp [bdet, bord, det, sum, sgn]
end Go.Proofs.Ytchlaebkigmfgaa
