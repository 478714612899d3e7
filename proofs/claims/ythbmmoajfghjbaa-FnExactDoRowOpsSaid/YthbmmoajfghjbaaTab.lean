/- Lists of numbers as tables; the plain results of the matrix operations. -/
import Derived.Test.YthbmmoajfghjbaaDet
namespace Go.Proofs.Ythbmmoajfghjbaa
set_option linter.unusedSimpArgs false
set_option linter.unusedVariables false

/-- The table of f at 0, 1, .., n - 1. -/
def tab (n : Nat) (f : Nat → Int) : List Int := (List.range n).map f
theorem tab_length (n : Nat) (f : Nat → Int) : (tab n f).length = n := by simp [tab]
theorem tab_getD {n k : Nat} (f : Nat → Int) (h : k < n) : (tab n f).getD k 0 = f k := by simp [tab, List.getD, h]
theorem tab_get? {n k : Nat} (f : Nat → Int) (h : k < n) : (tab n f)[k]? = some (f k) := by simp [tab, h]
theorem tab_congr {n : Nat} {f g : Nat → Int} (h : ∀ i, i < n → f i = g i) : tab n f = tab n g := by
  apply List.map_congr_left
  intro a ha
  exact h a (List.mem_range.1 ha)
theorem tab_inj {n : Nat} {f g : Nat → Int} (h : tab n f = tab n g) : ∀ i, i < n → f i = g i := by
  intro i hi
  rw [← tab_getD f hi, ← tab_getD g hi, h]
theorem tab_set {n k : Nat} {f g : Nat → Int} {v : Int} (hk : k < n → g k = v) (hne : ∀ i, i < n → i ≠ k → g i = f i) : (tab n f).set k v = tab n g := by
  apply List.ext_getElem?
  intro i
  simp only [tab, List.getElem?_set, List.length_map, List.length_range, List.getElem?_map]
  by_cases hi : i < n
  · by_cases e : k = i
    · subst e
      rw [if_pos rfl, if_pos hi, List.getElem?_range hi, Option.map_some, hk hi]
    · rw [if_neg e, List.getElem?_range hi, Option.map_some, Option.map_some, hne i hi (fun x => e x.symm)]
  · rw [List.getElem?_eq_none (l := List.range n) (by simp; omega)]
    by_cases e : k = i
    · subst e; rw [if_pos rfl, if_neg hi]; rfl
    · rw [if_neg e]; rfl
theorem tab_self (xs : List Int) : tab xs.length (fun i => xs.getD i 0) = xs := by
  apply List.ext_getElem?
  intro i
  simp only [tab, List.getElem?_map]
  by_cases hi : i < xs.length
  · simp [List.getElem?_range hi, List.getD, hi]
  · simp [List.getElem?_eq_none (l := List.range xs.length) (show (List.range xs.length).length ≤ i by simp; omega), show xs.length ≤ i from by omega]
theorem tab_zeros (n : Nat) : List.replicate n 0 = tab n (fun _ => 0) := by
  apply List.ext_getElem?
  intro i
  simp only [tab, List.getElem?_map, List.getElem?_replicate]
  by_cases hi : i < n
  · simp [List.getElem?_range hi, hi]
  · simp [hi, List.getElem?_eq_none (l := List.range n) (show (List.range n).length ≤ i by simp; omega)]
theorem tab_snoc (n : Nat) (f : Nat → Int) : tab (n + 1) f = tab n f ++ [f n] := by simp [tab, List.range_succ]
theorem tab_all {n : Nat} {f : Nat → Int} {p : Int → Bool} : (tab n f).all p = true ↔ ∀ i, i < n → p (f i) = true := by
  simp [tab, List.all_eq_true]

/-! An index in a matrix of so many columns. -/
theorem ix_lt {r c i j : Nat} (hi : i < r) (hj : j < c) : i * c + j < r * c := by
  have : (i + 1) * c ≤ r * c := Nat.mul_le_mul_right _ hi
  rw [Nat.add_mul] at this
  omega
theorem ix_div {c i j : Nat} (hj : j < c) : (i * c + j) / c = i := by
  rw [Nat.mul_comm, Nat.mul_add_div (by omega), Nat.div_eq_of_lt hj, Nat.add_zero]
theorem ix_mod {c i j : Nat} (hj : j < c) : (i * c + j) % c = j := by
  rw [Nat.mul_comm, Nat.mul_add_mod, Nat.mod_eq_of_lt hj]
theorem ix_of {r c p : Nat} (h : p < r * c) : p / c < r ∧ p % c < c ∧ p / c * c + p % c = p := by
  have hc : 0 < c := by
    rcases Nat.eq_zero_or_pos c with e | e
    · subst e; simp at h
    · exact e
  refine ⟨(Nat.div_lt_iff_lt_mul hc).2 h, Nat.mod_lt _ hc, ?_⟩
  rw [Nat.mul_comm]; exact Nat.div_add_mod p c
theorem ix_inj {c i j i' j' : Nat} (hj : j < c) (hj' : j' < c) (h : i * c + j = i' * c + j') : i = i' ∧ j = j' := by
  have h1 := congrArg (· / c) h
  have h2 := congrArg (· % c) h
  simp only [ix_div hj, ix_div hj', ix_mod hj, ix_mod hj'] at h1 h2
  exact ⟨h1, h2⟩
/-- Before the cell (i, j), row by row. -/
theorem ix_before {c i j i' j' : Nat} (hj : j < c) (hj' : j' < c) : i' * c + j' < i * c + j ↔ i' < i ∨ (i' = i ∧ j' < j) := by
  constructor
  · intro h
    rcases Nat.lt_trichotomy i' i with h1 | h1 | h1
    · exact .inl h1
    · subst h1; exact .inr ⟨rfl, by omega⟩
    · have : (i + 1) * c ≤ i' * c := Nat.mul_le_mul_right _ h1
      rw [Nat.add_mul] at this; omega
  · rintro (h1 | ⟨rfl, h1⟩)
    · have : (i' + 1) * c ≤ i * c := Nat.mul_le_mul_right _ h1
      rw [Nat.add_mul] at this; omega
    · omega

/-- The cells as a matrix. -/
def toM (c : Nat) (xs : List Int) : Det.Mat := fun i j => xs.getD (i * c + j) 0
/-- A matrix's cells. -/
def ofM (r c : Nat) (M : Det.Mat) : List Int := tab (r * c) (fun p => M (p / c) (p % c))
theorem ofM_length (r c : Nat) (M : Det.Mat) : (ofM r c M).length = r * c := tab_length _ _
theorem toM_ofM {r c : Nat} (M : Det.Mat) {i j : Nat} (hi : i < r) (hj : j < c) : toM c (ofM r c M) i j = M i j := by
  simp only [toM, ofM]
  rw [tab_getD _ (ix_lt hi hj), ix_div hj, ix_mod hj]
theorem ofM_congr {r c : Nat} {M N : Det.Mat} (h : ∀ i j, i < r → j < c → M i j = N i j) : ofM r c M = ofM r c N :=
  tab_congr fun p hp => by
    have := ix_of hp
    exact h _ _ this.1 this.2.1
theorem ofM_toM {r c : Nat} {xs : List Int} (h : xs.length = r * c) : ofM r c (toM c xs) = xs := by
  rw [ofM]
  have : tab (r * c) (fun p => toM c xs (p / c) (p % c)) = tab xs.length (fun p => xs.getD p 0) := by
    rw [h]
    exact tab_congr fun p hp => by rw [toM, (ix_of hp).2.2]
  rw [this, tab_self]
end Go.Proofs.Ythbmmoajfghjbaa
