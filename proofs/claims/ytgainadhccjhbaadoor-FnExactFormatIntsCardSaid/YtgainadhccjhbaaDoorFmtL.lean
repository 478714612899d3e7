/- Decimal numerals, joined texts: plain laws. -/
import Derived.Lib.ItoaNum
import Derived.Lib.ItoaLen
import Derived.Lib.Join
namespace Go.Proofs.YtgainadhccjhbaaDoor
set_option linter.unusedSimpArgs false
set_option linter.unusedVariables false
open Go.Lib

/-- The digits of u, none for 0. -/
def dd (u : Nat) : List UInt8 := if u = 0 then [] else decDigits u
theorem dd_zero : dd 0 = [] := rfl
theorem dd_pos {u : Nat} (h : u ≠ 0) : dd u = decDigits u := if_neg h
theorem dd_step {u : Nat} (h : u ≠ 0) : dd u = dd (u / 10) ++ [UInt8.ofNat (48 + u % 10)] := by
  rw [dd_pos h, decDigits]
  by_cases h1 : u < 10
  · rw [dif_pos h1, show u / 10 = 0 from by omega, dd_zero, Nat.mod_eq_of_lt h1]; rfl
  · rw [dif_neg h1, dd_pos (by omega)]
theorem nDigits_le {u k : Nat} (h : u < 10 ^ k) (hk : 1 ≤ k) : nDigits u ≤ k := by
  induction k generalizing u with
  | zero => omega
  | succ k ih =>
    by_cases h1 : u < 10
    · rw [nDigits_small h1]; omega
    · rw [nDigits_big h1]
      rw [Nat.pow_succ] at h
      by_cases h2 : k = 0
      · subst h2; simp at h; omega
      · have := ih (u := u / 10) (by omega) (by omega)
        omega
theorem dd_len {u : Nat} (h : u < 10000000000000000000000000) : (dd u).length ≤ 25 := by
  by_cases h0 : u = 0
  · subst h0; simp [dd_zero]
  · rw [dd_pos h0, decDigits_length]; exact nDigits_le (by simpa using h) (by omega)

theorem joinTail_nil (sep : List UInt8) : joinTail sep [] = [] := rfl
theorem joinTail_snoc (sep : List UInt8) (r : List (List UInt8)) (y : List UInt8) : joinTail sep (r ++ [y]) = joinTail sep r ++ (sep ++ y) := by
  simp [joinTail]
theorem join_snoc (sep : List UInt8) (r : List (List UInt8)) (y : List UInt8) : join (r ++ [y]) sep = if r = [] then y else join r sep ++ (sep ++ y) := by
  cases r with
  | nil => rw [if_pos rfl, List.nil_append, join_one]
  | cons x r => rw [if_neg (by simp), List.cons_append, join_cons, join_cons, joinTail_snoc, List.append_assoc]

/-- The text of numbers with spaces between. -/
def intsT (xs : List Int) : List UInt8 := join (xs.map itoa) [32]
theorem intsT_nil : intsT [] = [] := rfl
theorem intsT_snoc (xs : List Int) (x : Int) : intsT (xs ++ [x]) = if xs = [] then itoa x else intsT xs ++ (32 :: itoa x) := by
  rw [intsT, List.map_append, List.map_cons, List.map_nil, join_snoc]
  by_cases h : xs = []
  · rw [if_pos h, if_pos (by rw [h]; rfl)]
  · rw [if_neg h, if_neg (by simpa using h)]; rfl
theorem intsT_take {xs : List Int} {k : Nat} (h : k < xs.length) : intsT (xs.take (k + 1)) = (if k = 0 then [] else intsT (xs.take k) ++ [32]) ++ itoa (xs.getD k 0) := by
  rw [List.take_succ_eq_append_getElem h, intsT_snoc, show xs.getD k 0 = xs[k] from by simp [List.getD, h]]
  by_cases hk : k = 0
  · subst hk; simp
  · have hne : ¬ xs.take k = [] := fun e => by
      have h3 : (xs.take k).length = k := by rw [List.length_take]; omega
      rw [e] at h3
      exact hk h3.symm
    rw [if_neg hk, if_neg hne]
    simp
theorem joinTail_len (sep : List UInt8) (r : List (List UInt8)) (m : Nat) (h : ∀ y ∈ r, y.length ≤ m) : (joinTail sep r).length ≤ r.length * (sep.length + m) := by
  induction r with
  | nil => simp [joinTail_nil]
  | cons x r ih =>
    have h1 := h x (by simp)
    have h2 := ih (fun y hy => h y (by simp [hy]))
    simp only [joinTail, List.map_cons, List.flatten_cons, List.length_append, List.length_cons] at h2 ⊢
    rw [Nat.add_mul]
    omega
theorem join_len (sep : List UInt8) (r : List (List UInt8)) (m : Nat) (h : ∀ y ∈ r, y.length ≤ m) : (join r sep).length ≤ r.length * (sep.length + m) := by
  cases r with
  | nil => simp [join_nil]
  | cons x r =>
    rw [join_cons, List.length_append]
    have h1 := h x (by simp)
    have h2 := joinTail_len sep r m (fun y hy => h y (by simp [hy]))
    simp only [List.length_cons, Nat.add_mul] at h2 ⊢
    omega
def isI64 (n : Int) : Prop := -9223372036854775808 ≤ n ∧ n ≤ 9223372036854775807
theorem intsT_len {xs : List Int} (h : ∀ x ∈ xs, isI64 x) : (intsT xs).length ≤ xs.length * 22 := by
  have := join_len [32] (xs.map itoa) 21 (by
    intro y hy
    obtain ⟨x, hx, rfl⟩ := List.mem_map.1 hy
    exact itoa_length_le x (h x hx).1 (h x hx).2)
  simpa [intsT] using this

/-- The cells of row i. -/
def lineL (c : Nat) (xs : List Int) (i : Nat) : List Int := (xs.drop (i * c)).take c
/-- The rows' texts, the first so many, with semicolons between. -/
def rowsT (c : Nat) (xs : List Int) (i : Nat) : List UInt8 := join ((List.range i).map fun k => intsT (lineL c xs k)) [59]
theorem rowsT_zero (c : Nat) (xs : List Int) : rowsT c xs 0 = [] := rfl
theorem rowsT_succ (c : Nat) (xs : List Int) (i : Nat) : rowsT c xs (i + 1) = (if i = 0 then [] else rowsT c xs i ++ [59]) ++ intsT (lineL c xs i) := by
  rw [rowsT, List.range_succ, List.map_append, List.map_cons, List.map_nil, join_snoc]
  by_cases h : i = 0
  · subst h; simp
  · rw [if_neg h, if_neg (by simp; omega)]; simp [rowsT]
/-- What the cells before number p read, row by row. -/
def cellsT (c : Nat) (xs : List Int) : Nat → List UInt8
  | 0 => []
  | p + 1 => (if p = 0 then [] else if p % c = 0 then cellsT c xs p ++ [59] else cellsT c xs p ++ [32]) ++ itoa (xs.getD p 0)
theorem lineL_take {c : Nat} {xs : List Int} {i j : Nat} (hj : j < c) (h : i * c + j < xs.length) : intsT ((lineL c xs i).take (j + 1)) = (if j = 0 then [] else intsT ((lineL c xs i).take j) ++ [32]) ++ itoa (xs.getD (i * c + j) 0) := by
  have hl : j < (lineL c xs i).length := by simp [lineL]; omega
  rw [intsT_take hl]
  congr 2
  simp [lineL, List.getD, List.getElem?_take, hj, List.getElem?_drop]
theorem cellsT_row {r c : Nat} {xs : List Int} (hl : xs.length = r * c) (hc : 0 < c) : ∀ i j, i < r → j ≤ c → 0 < j → cellsT c xs (i * c + j) = (if i = 0 then [] else rowsT c xs i ++ [59]) ++ intsT ((lineL c xs i).take j) := by
  intro i
  induction i with
  | zero =>
    intro j
    induction j with
    | zero => intro _ _ h; omega
    | succ j ih =>
      intro hr hj _
      have hb : 0 * c + j < xs.length := by
        have : 1 * c ≤ r * c := Nat.mul_le_mul_right _ hr
        omega
      rw [if_pos rfl, List.nil_append, lineL_take (by omega) hb, ← Nat.add_assoc, cellsT]
      by_cases h0 : j = 0
      · subst h0; simp
      · have := ih hr (by omega) (by omega)
        rw [if_pos rfl, List.nil_append] at this
        rw [if_neg (by omega), if_neg h0, if_neg (by rw [Nat.zero_mul, Nat.zero_add, Nat.mod_eq_of_lt (by omega)]; exact h0), this]
  | succ i ihi =>
    intro j
    induction j with
    | zero => intro _ _ h; omega
    | succ j ih =>
      intro hr hj _
      have hb : (i + 1) * c + j < xs.length := by
        have : (i + 1 + 1) * c ≤ r * c := Nat.mul_le_mul_right _ hr
        rw [Nat.add_mul] at this
        omega
      have hm : ((i + 1) * c + j) % c = j := by rw [Nat.mul_comm, Nat.mul_add_mod, Nat.mod_eq_of_lt (by omega)]
      have hp : ¬ (i + 1) * c + j = 0 := by
        have : 1 * c ≤ (i + 1) * c := Nat.mul_le_mul_right _ (by omega)
        omega
      rw [if_neg (by omega), lineL_take (by omega) hb, ← Nat.add_assoc, cellsT, if_neg hp, hm]
      by_cases h0 : j = 0
      · subst h0
        rw [if_pos rfl, if_pos rfl, Nat.add_zero]
        have := ihi c (by omega) (Nat.le_refl _) hc
        rw [show i * c + c = (i + 1) * c from by rw [Nat.add_mul]; omega] at this
        rw [this, rowsT_succ, List.take_of_length_le (by simp [lineL]; omega)]
        simp
      · have := ih hr (by omega) (by omega)
        rw [if_neg (by omega)] at this
        rw [if_neg h0, if_neg h0, this]
        simp
theorem cellsT_all {r c : Nat} {xs : List Int} (hl : xs.length = r * c) : cellsT c xs xs.length = if c = 0 then [] else rowsT c xs r := by
  by_cases h : c = 0
  · subst h; rw [if_pos rfl, hl, Nat.mul_zero]; rfl
  · rw [if_neg h]
    cases r with
    | zero => rw [hl, Nat.zero_mul]; rfl
    | succ r =>
      rw [hl, show (r + 1) * c = r * c + c from by rw [Nat.add_mul]; omega, cellsT_row hl (by omega) r c (by omega) (Nat.le_refl _) (by omega), rowsT_succ, List.take_of_length_le (by simp [lineL]; omega)]
/-- A matrix's text. -/
def matT (r c : Nat) (xs : List Int) : List UInt8 := itoa r ++ [120] ++ itoa c ++ [91] ++ cellsT c xs xs.length ++ [93]
theorem cellsT_len {c : Nat} {xs : List Int} (h : ∀ x ∈ xs, isI64 x) : ∀ p, p ≤ xs.length → (cellsT c xs p).length ≤ p * 22
  | 0, _ => by simp [cellsT]
  | p + 1, hp => by
    have h1 := cellsT_len (c := c) h p (by omega)
    have h2 : (itoa (xs.getD p 0)).length ≤ 21 := by

      have := h (xs.getD p 0) (by rw [show xs.getD p 0 = xs[p] from by simp [List.getD, show p < xs.length from by omega]]; exact List.getElem_mem _)
      exact itoa_length_le _ this.1 this.2
    rw [cellsT]
    generalize itoa (xs.getD p 0) = y at h2
    rw [List.length_append]
    split
    · simp only [List.length_nil]; omega
    · split
      · simp only [List.length_append, List.length_cons, List.length_nil]; omega
      · simp only [List.length_append, List.length_cons, List.length_nil]; omega
end Go.Proofs.YtgainadhccjhbaaDoor
