/- Determinants of whole-number matrices by the first row: the plain laws (product, transpose, adjugate). -/
namespace Go.Proofs.Ythbmmoajfghjbaa
set_option linter.unusedSimpArgs false
set_option linter.unusedVariables false
namespace Det

def sum : Nat → (Nat → Int) → Int
  | 0, _ => 0
  | n + 1, f => sum n f + f n
theorem sum_congr {n : Nat} {f g : Nat → Int} (h : ∀ i, i < n → f i = g i) : sum n f = sum n g := by
  induction n with
  | zero => rfl
  | succ n ih => rw [sum, sum, ih (fun i hi => h i (by omega)), h n (by omega)]
theorem sum_zero {n : Nat} {f : Nat → Int} (h : ∀ i, i < n → f i = 0) : sum n f = 0 := by
  induction n with
  | zero => rfl
  | succ n ih => rw [sum, ih (fun i hi => h i (by omega)), h n (by omega)]; rfl
theorem sum_lin {n : Nat} (f g : Nat → Int) (a b : Int) : sum n (fun i => a * f i + b * g i) = a * sum n f + b * sum n g := by
  induction n with
  | zero => simp [sum]
  | succ n ih => simp only [sum, ih]; grind
theorem sum_add {n : Nat} (f g : Nat → Int) : sum n (fun i => f i + g i) = sum n f + sum n g := by
  induction n with
  | zero => simp [sum]
  | succ n ih => simp only [sum, ih]; grind
theorem sum_mul {n : Nat} (f : Nat → Int) (a : Int) : sum n (fun i => a * f i) = a * sum n f := by
  induction n with
  | zero => simp [sum]
  | succ n ih => simp only [sum, ih]; grind
theorem sum_mulr {n : Nat} (f : Nat → Int) (a : Int) : sum n (fun i => f i * a) = sum n f * a := by
  induction n with
  | zero => simp [sum]
  | succ n ih => simp only [sum, ih]; grind
theorem sum_neg {n : Nat} (f : Nat → Int) : sum n (fun i => - f i) = - sum n f := by
  induction n with
  | zero => simp [sum]
  | succ n ih => simp only [sum, ih]; grind
theorem sum_comm {n m : Nat} (f : Nat → Nat → Int) : sum n (fun i => sum m (fun j => f i j)) = sum m (fun j => sum n (fun i => f i j)) := by
  induction n with
  | zero => simp only [sum]; exact (sum_zero (fun _ _ => rfl)).symm
  | succ n ih => simp only [sum, ih, sum_add]
theorem sum_one {n k : Nat} (hk : k < n) (f : Nat → Int) (h : ∀ i, i < n → i ≠ k → f i = 0) : sum n f = f k := by
  induction n with
  | zero => omega
  | succ n ih =>
    rw [sum]
    by_cases e : k = n
    · subst e
      rw [sum_zero (fun i hi => h i (by omega) (by omega))]; omega
    · rw [ih (by omega) (fun i hi hne => h i (by omega) hne), h n (by omega) (by omega)]; omega
theorem sum_two {n k l : Nat} (hkl : k < l) (hl : l < n) (f : Nat → Int) (h : ∀ i, i < n → i ≠ k → i ≠ l → f i = 0) : sum n f = f k + f l := by
  induction n with
  | zero => omega
  | succ n ih =>
    rw [sum]
    by_cases e : l = n
    · subst e
      rw [sum_one hkl f (fun i hi hne => h i (by omega) hne (by omega))]
    · rw [ih (by omega) (fun i hi h1 h2 => h i (by omega) h1 h2), h n (by omega) (by omega) (by omega)]; omega
theorem sum_anti {n : Nat} (g : Nat → Nat → Int) (h : ∀ i j, i < n → j < n → g i j = - g j i) : sum n (fun i => sum n (fun j => g i j)) = 0 := by
  have h1 := sum_comm (n := n) (m := n) g
  have h2 : sum n (fun j => sum n (fun i => g i j)) = - sum n (fun j => sum n (fun i => g j i)) := by
    rw [← sum_neg]
    refine sum_congr fun j hj => ?_
    rw [← sum_neg]
    exact sum_congr fun i hi => h i j hi hj
  omega

abbrev Mat := Nat → Nat → Int
def skip (i a : Nat) : Nat := if a < i then a else a + 1
def minor (M : Mat) (i j : Nat) : Mat := fun a b => M (skip i a) (skip j b)
def sgn (j : Nat) : Int := if j % 2 = 0 then 1 else -1
theorem sgn_succ (j : Nat) : sgn (j + 1) = - sgn j := by unfold sgn; split <;> split <;> omega
theorem sgn_add (i j : Nat) : sgn (i + j) = sgn i * sgn j := by unfold sgn; split <;> split <;> split <;> omega
theorem sgn_sq (i : Nat) : sgn i * sgn i = 1 := by unfold sgn; split <;> simp
theorem sgn_zero : sgn 0 = 1 := rfl
theorem skip_lt {i a n : Nat} (h : a < n) : skip i a < n + 1 := by unfold skip; split <;> omega
theorem skip_ne (i a : Nat) : skip i a ≠ i := by unfold skip; split <;> omega

/-- A sum over all but one. -/
theorem sum_skip {n j : Nat} (hj : j < n + 1) (f : Nat → Int) : sum n (fun k => f (skip j k)) + f j = sum (n + 1) f := by
  induction n with
  | zero => have : j = 0 := by omega
            subst this; simp [sum]
  | succ n ih =>
    by_cases e : j = n + 1
    · subst e
      have : sum (n + 1) (fun k => f (skip (n + 1) k)) = sum (n + 1) f := sum_congr fun k hk => by simp [skip, hk]
      rw [this]; rfl
    · have h1 := ih (by omega)
      rw [sum, sum]
      have : skip j n = n + 1 := by unfold skip; split <;> omega
      rw [this]; omega

def det : Nat → Mat → Int
  | 0, _ => 1
  | n + 1, M => sum (n + 1) fun j => sgn j * M 0 j * det n (minor M 0 j)

theorem det_congr {n : Nat} {M N : Mat} (h : ∀ i j, i < n → j < n → M i j = N i j) : det n M = det n N := by
  induction n generalizing M N with
  | zero => rfl
  | succ n ih =>
    rw [det, det]
    refine sum_congr fun j hj => ?_
    rw [h 0 j (by omega) hj, ih (M := minor M 0 j) (N := minor N 0 j) (fun a b ha hb => h _ _ (skip_lt ha) (skip_lt hb))]

def setRow (M : Mat) (i : Nat) (u : Nat → Int) : Mat := fun a b => if a = i then u b else M a b
theorem setRow_self (M : Mat) (i : Nat) : setRow M i (M i) = M := by
  funext a b; unfold setRow; split <;> simp_all
theorem setRow_twice (M : Mat) (i : Nat) (u v : Nat → Int) : setRow (setRow M i u) i v = setRow M i v := by
  funext a b; unfold setRow; split <;> simp_all
theorem setRow_comm (M : Mat) {i k : Nat} (h : i ≠ k) (u v : Nat → Int) : setRow (setRow M i u) k v = setRow (setRow M k v) i u := by
  funext a b; unfold setRow; split <;> split <;> simp_all

def unitRow (j : Nat) : Nat → Int := fun b => if b = j then 1 else 0
def one : Mat := fun a b => if a = b then 1 else 0
structure Alt (n : Nat) (F : Mat → Int) : Prop where
  congr : ∀ M N : Mat, (∀ i j, i < n → j < n → M i j = N i j) → F M = F N
  lin : ∀ (M : Mat) (i : Nat) (u v : Nat → Int) (a b : Int), i < n → F (setRow M i (fun j => a * u j + b * v j)) = a * F (setRow M i u) + b * F (setRow M i v)
  near : ∀ (M : Mat) (i : Nat), i + 1 < n → (∀ j, j < n → M i j = M (i + 1) j) → F M = 0

theorem minor_setRow_zero (M : Mat) (u : Nat → Int) (j : Nat) : minor (setRow M 0 u) 0 j = minor M 0 j := by
  funext a b; simp [minor, setRow, skip]
theorem minor_setRow_succ (M : Mat) (i : Nat) (u : Nat → Int) (j : Nat) : minor (setRow M (i + 1) u) 0 j = setRow (minor M 0 j) i (fun b => u (skip j b)) := by
  funext a b; simp [minor, setRow, skip]

theorem det_near0 (n : Nat) (M : Mat) (h : ∀ j, j < n + 2 → M 0 j = M 1 j) : det (n + 2) M = 0 := by
  rw [det]
  have e : ∀ j, j < n + 2 → sgn j * M 0 j * det (n + 1) (minor M 0 j) = sum (n + 2) (fun k => if k = j then 0 else (if k < j then 1 else -1) * sgn j * sgn k * M 0 j * M 0 k * det n (minor (minor M 0 (max j k)) 0 (min j k))) := by
    intro j hj
    have hs := sum_skip (n := n + 1) (j := j) hj (fun k => if k = j then 0 else (if k < j then 1 else -1) * sgn j * sgn k * M 0 j * M 0 k * det n (minor (minor M 0 (max j k)) 0 (min j k)))
    rw [← hs]
    simp only [if_true, Int.add_zero]
    rw [det, ← sum_mul]
    refine sum_congr fun k hk => ?_
    rw [if_neg (skip_ne j k)]
    have h1 : minor M 0 j 0 k = M 0 (skip j k) := by
      show M (skip 0 0) (skip j k) = _
      rw [show skip 0 0 = 1 from rfl, h _ (skip_lt hk)]
    rw [h1]
    by_cases hkj : k < j
    · have h2 : skip j k = k := by simp [skip, hkj]
      have h3 : max j k = j := by omega
      have h4 : min j k = k := by omega
      rw [h2, h3, h4, if_pos hkj]
      grind
    · have h2 : skip j k = k + 1 := by simp [skip, hkj]
      have h3 : max j (k + 1) = k + 1 := by omega
      have h4 : min j (k + 1) = j := by omega
      have h5 : minor (minor M 0 j) 0 k = minor (minor M 0 (k + 1)) 0 j := by
        funext a b
        simp only [minor]
        congr 1
        unfold skip
        repeat' split
        all_goals omega
      rw [h2, h3, h4, if_neg (by omega), h5, sgn_succ]
      grind
  rw [sum_congr e]
  refine sum_anti _ fun i j hi hj => ?_
  by_cases hij : i = j
  · subst hij; simp
  · rw [if_neg hij, if_neg (fun e => hij e.symm), show max i j = max j i from by omega, show min i j = min j i from by omega]
    by_cases h1 : i < j
    · rw [if_neg (by omega), if_pos h1]; grind
    · rw [if_pos (by omega), if_neg (by omega)]; grind

theorem det_alt (n : Nat) : Alt n (det n) := by
  induction n with
  | zero => exact ⟨fun _ _ _ => rfl, fun _ _ _ _ _ _ h => by omega, fun _ _ h => by omega⟩
  | succ n ih =>
    refine ⟨fun M N h => det_congr h, fun M i u v a b hi => ?_, fun M i hi h => ?_⟩
    · cases i with
      | zero =>
        simp only [det, minor_setRow_zero]
        rw [← sum_lin]
        refine sum_congr fun j _ => ?_
        simp only [setRow, if_true]
        grind
      | succ i =>
        simp only [det, minor_setRow_succ]
        rw [← sum_lin]
        refine sum_congr fun j _ => ?_
        rw [ih.lin _ i (fun b => u (skip j b)) (fun b => v (skip j b)) a b (by omega)]
        have hs : ∀ x : Nat → Int, setRow M (i + 1) x 0 j = M 0 j := fun x => by simp [setRow]
        rw [hs, hs, hs]
        grind
    · cases i with
      | zero =>
        obtain ⟨m, rfl⟩ : ∃ m, n = m + 1 := ⟨n - 1, by omega⟩
        exact det_near0 m M h
      | succ i =>
        rw [det]
        refine sum_zero fun j hj => ?_
        rw [ih.near (minor M 0 j) i (by omega) (fun b hb => by
          show M (skip 0 i) _ = M (skip 0 (i + 1)) _
          rw [show skip 0 i = i + 1 from rfl, show skip 0 (i + 1) = i + 1 + 1 from rfl]
          exact h _ (skip_lt hb))]
        grind

namespace Alt
variable {n : Nat} {F : Mat → Int}
theorem add (A : Alt n F) (M : Mat) (i : Nat) (u v : Nat → Int) (hi : i < n) : F (setRow M i (fun j => u j + v j)) = F (setRow M i u) + F (setRow M i v) := by
  have := A.lin M i u v 1 1 hi
  simpa using this
theorem smul (A : Alt n F) (M : Mat) (i : Nat) (u : Nat → Int) (a : Int) (hi : i < n) : F (setRow M i (fun j => a * u j)) = a * F (setRow M i u) := by
  have := A.lin M i u u a 0 hi
  simpa using this
def swap (M : Mat) (i k : Nat) : Mat := setRow (setRow M i (M k)) k (M i)
theorem swap_of (A : Alt n F) (M : Mat) (i k : Nat) (hi : i < n) (hk : k < n) (hik : i ≠ k) (h : ∀ (N : Mat), (∀ j, j < n → N i j = N k j) → F N = 0) : F (swap M i k) = - F M := by
  have e0 : ∀ u, F (setRow (setRow M i u) k u) = 0 := fun u => h _ fun j _ => by simp [setRow, hik]
  have e1 := e0 (fun j => M i j + M k j)
  rw [A.add _ k _ _ hk, setRow_comm _ hik, setRow_comm _ hik, A.add _ i _ _ hi, A.add _ i _ _ hi] at e1
  rw [← setRow_comm _ hik, ← setRow_comm _ hik, ← setRow_comm _ hik, ← setRow_comm _ hik] at e1
  have e2 := e0 (M i)
  have e3 := e0 (M k)
  have e4 : setRow (setRow M i (M i)) k (M k) = M := by rw [setRow_self, setRow_self]
  rw [e2, e3, e4] at e1
  unfold swap
  omega
theorem any (A : Alt n F) (d : Nat) : ∀ (M : Mat) (i k : Nat), k = i + 1 + d → k < n → (∀ j, j < n → M i j = M k j) → F M = 0 := by
  induction d with
  | zero => intro M i k hk hn h; subst hk; exact A.near M i hn h
  | succ d ih =>
    intro M i k hk hn h
    have h1 : F (swap M (k - 1) k) = - F M := swap_of A M (k - 1) k (by omega) hn (by omega) (fun N hN => A.near N (k - 1) (by omega) (fun j hj => by rw [show k - 1 + 1 = k from by omega]; exact hN j hj))
    have h2 : F (swap M (k - 1) k) = 0 := ih _ i (k - 1) (by omega) (by omega) (fun j hj => by
      simp only [swap, setRow]
      rw [if_neg (by omega), if_neg (by omega), if_neg (by omega), if_pos trivial]
      exact h j hj)
    omega
theorem same (A : Alt n F) (M : Mat) (i k : Nat) (hi : i < n) (hk : k < n) (hik : i ≠ k) (h : ∀ j, j < n → M i j = M k j) : F M = 0 := by
  by_cases e : i < k
  · exact A.any (k - i - 1) M i k (by omega) hk h
  · exact A.any (i - k - 1) M k i (by omega) hi (fun j hj => (h j hj).symm)
theorem swapped (A : Alt n F) (M : Mat) (i k : Nat) (hi : i < n) (hk : k < n) (hik : i ≠ k) : F (swap M i k) = - F M :=
  A.swap_of M i k hi hk hik (fun N hN => A.same N i k hi hk hik hN)
/-- A multiple of another row may be added. -/
theorem added (A : Alt n F) (M : Mat) (i k : Nat) (c : Int) (hi : i < n) (hk : k < n) (hik : i ≠ k) : F (setRow M i (fun j => M i j + c * M k j)) = F M := by
  have h := A.lin M i (M i) (M k) 1 c hi
  simp only [Int.one_mul] at h
  rw [h, setRow_self, A.same (setRow M i (M k)) i k hi hk hik (fun j _ => by simp [setRow, Ne.symm hik])]
  omega
/-- Row i brought to the top. -/
def rot (M : Mat) (i : Nat) : Mat := fun a b => M (if a = 0 then i else if a ≤ i then a - 1 else a) b
theorem rot_succ (M : Mat) (i : Nat) : rot M (i + 1) = swap (rot M i) 0 (i + 1) := by
  funext a b
  simp only [rot, swap, setRow]
  repeat' split
  all_goals (first | omega | (congr 1; omega) | (subst_vars; congr 1; omega) | rfl | (exfalso; simp_all; done) | skip)
theorem rotated (A : Alt n F) (M : Mat) (i : Nat) (hi : i < n) : F (rot M i) = sgn i * F M := by
  induction i with
  | zero =>
    have : rot M 0 = M := by
      funext a b
      simp only [rot]
      split
      · subst_vars; rfl
      · rw [if_neg (by omega)]
    rw [this, sgn_zero]; omega
  | succ i ih =>
    rw [rot_succ, A.swapped _ 0 (i + 1) (by omega) hi (by omega), ih (by omega), sgn_succ]
    grind

/-- Row 0 written out in unit rows. -/
theorem expand0 (A : Alt n F) (M : Mat) (hn : 0 < n) (m : Nat) (c : Nat → Int) : F (setRow M 0 (fun b => sum m (fun j => c j * unitRow j b))) = sum m (fun j => c j * F (setRow M 0 (unitRow j))) := by
  induction m with
  | zero =>
    have := A.smul M 0 (fun _ => 0) 0 hn
    simpa [sum] using this
  | succ m ih =>
    simp only [sum]
    have h1 := A.lin M 0 (fun b => sum m (fun j => c j * unitRow j b)) (unitRow m) 1 (c m) hn
    simp only [Int.one_mul] at h1
    rw [h1, ih]
theorem row0 (A : Alt n F) (M : Mat) (hn : 0 < n) : F M = sum n (fun j => M 0 j * F (setRow M 0 (unitRow j))) := by
  rw [← A.expand0 M hn n (M 0)]
  refine A.congr _ _ fun i b hi hb => ?_
  simp only [setRow]
  split
  · subst_vars
    rw [sum_one hb _ (fun j _ hne => by simp [unitRow, Ne.symm hne])]
    simp [unitRow]
  · rfl
/-- A matrix one larger: row 0 is the unit row j, below it column j is 0. -/
def ins (j : Nat) (N : Mat) : Mat := fun a b => if a = 0 then unitRow j b else if b = j then 0 else N (a - 1) (if b < j then b else b - 1)
theorem ins_alt {n : Nat} {F : Mat → Int} (A : Alt (n + 1) F) (j : Nat) (hj : j < n + 1) : Alt n (fun N => F (ins j N)) := by
  refine ⟨fun M N h => ?_, fun M i u v a b hi => ?_, fun M i hi h => ?_⟩
  · refine A.congr _ _ fun p q hp hq => ?_
    simp only [ins]
    split
    · rfl
    · split
      · rfl
      · exact h _ _ (by omega) (by split <;> omega)
  · have e : ∀ x : Nat → Int, ins j (setRow M i x) = setRow (ins j M) (i + 1) (fun b => if b = j then 0 else x (if b < j then b else b - 1)) := by
      intro x; funext p q
      simp only [ins, setRow]
      by_cases hp : p = 0
      · subst hp; simp
      · rw [if_neg hp]
        by_cases hpi : p = i + 1
        · subst hpi; simp
        · rw [if_neg hpi, if_neg (show ¬ p - 1 = i by omega), if_neg hp]
    simp only [e]
    rw [← A.lin _ _ _ _ _ _ (by omega)]
    congr 2
    funext q
    split <;> simp
  · refine A.near _ (i + 1) (by omega) fun q hq => ?_
    by_cases hqj : q = j
    · simp [ins, hqj]
    · have := h (if q < j then q else q - 1) (by split <;> omega)
      simpa [ins, hqj] using this
/-- Below a unit row its column may be cleared. -/
theorem cleared {n : Nat} {F : Mat → Int} (A : Alt (n + 1) F) (j : Nat) (M : Mat) (k : Nat) (hk : k ≤ n) : F (setRow M 0 (unitRow j)) = F (fun a b => if a = 0 then unitRow j b else if a ≤ k ∧ b = j then 0 else M a b) := by
  induction k with
  | zero =>
    congr 1
    funext a b
    simp only [setRow]
    split
    · rfl
    · rw [if_neg (by omega)]
  | succ k ih =>
    rw [ih (by omega)]
    rw [← A.added _ (k + 1) 0 (- M (k + 1) j) (by omega) (by omega) (by omega)]
    congr 1
    funext a b
    simp only [setRow]
    by_cases ha : a = k + 1
    · subst ha
      by_cases hb : b = j
      · subst hb; simp [unitRow, show ¬ k + 1 ≤ k from by omega]; omega
      · simp [unitRow, hb]
    · rw [if_neg ha]
      split
      · rfl
      · by_cases hb : b = j
        · by_cases hk : a ≤ k
          · rw [if_pos ⟨hk, hb⟩, if_pos ⟨by omega, hb⟩]
          · rw [if_neg (by omega), if_neg (by omega)]
        · rw [if_neg (by omega), if_neg (by omega)]
theorem ins_minor {n : Nat} {F : Mat → Int} (A : Alt (n + 1) F) (j : Nat) (M : Mat) : F (setRow M 0 (unitRow j)) = F (ins j (minor M 0 j)) := by
  rw [cleared A j M n (Nat.le_refl _)]
  refine A.congr _ _ fun a b ha hb => ?_
  simp only [ins]
  split
  · rfl
  · by_cases hb : b = j
    · rw [if_pos ⟨by omega, hb⟩, if_pos hb]
    · rw [if_neg (by omega), if_neg hb]
      simp only [minor, skip]
      congr 1
      · rw [if_neg (by omega)]; omega
      · by_cases hbj : b < j
        · simp [hbj]
        · simp only [hbj, if_false]; rw [if_neg (by omega)]; omega
theorem ins_one (j : Nat) : ins j one = rot one j := by
  funext a b
  simp only [ins, rot, one, unitRow]
  by_cases ha : a = 0
  · subst ha
    simp [eq_comm]
  · rw [if_neg ha, if_neg ha]
    by_cases hb : b = j
    · subst hb
      rw [if_pos rfl, if_neg (by split <;> omega)]
    · rw [if_neg hb]
      by_cases h1 : a - 1 = if b < j then b else b - 1
      · rw [if_pos h1, if_pos (by repeat' split at h1 <;> split <;> omega)]
      · rw [if_neg h1, if_neg (by repeat' split at h1 <;> split <;> omega)]
/-- There is only one such function. -/
theorem unique : ∀ (n : Nat) (F : Mat → Int), Alt n F → ∀ M, F M = F one * det n M := by
  intro n
  induction n with
  | zero => intro F A M; rw [A.congr M one (fun _ _ h => by omega)]; simp [det]
  | succ n ih =>
    intro F A M
    rw [A.row0 M (by omega), det, ← sum_mul]
    refine sum_congr fun j hj => ?_
    rw [ins_minor A j M, ih _ (ins_alt A j hj) (minor M 0 j), ins_one, A.rotated one j hj]
    grind
end Alt

theorem minor_one : minor one 0 0 = one := by
  funext a b
  simp only [minor, one, skip]
  by_cases h : a = b
  · subst h; simp
  · rw [if_neg h]; simp; omega
theorem det_one (n : Nat) : det n one = 1 := by
  induction n with
  | zero => rfl
  | succ n ih =>
    rw [det, sum_one (k := 0) (by omega) _ (fun j _ hj => by simp [one, Ne.symm hj]), minor_one, ih]
    rfl
def mul (n : Nat) (A B : Mat) : Mat := fun i j => sum n (fun k => A i k * B k j)
theorem mul_alt (n : Nat) (B : Mat) : Alt n (fun M => det n (mul n M B)) := by
  refine ⟨fun M N h => ?_, fun M i u v a b hi => ?_, fun M i hi h => ?_⟩
  · exact det_congr fun i j hi hj => sum_congr fun k hk => by rw [h i k hi hk]
  · have e : ∀ x : Nat → Int, mul n (setRow M i x) B = setRow (mul n M B) i (fun j => sum n (fun k => x k * B k j)) := by
      intro x; funext p q
      simp only [mul, setRow]
      split <;> rfl
    simp only [e]
    rw [← (det_alt n).lin _ _ _ _ _ _ hi]
    congr 2
    funext j
    rw [← sum_lin]
    exact sum_congr fun k _ => by grind
  · exact (det_alt n).near _ i hi fun j hj => sum_congr fun k hk => by rw [h k hk]
theorem mul_one_left (n : Nat) (B : Mat) (i j : Nat) (hi : i < n) : mul n one B i j = B i j := by
  rw [mul, sum_one hi _ (fun k _ hk => by simp [one, Ne.symm hk])]
  simp [one]
theorem det_mul (n : Nat) (A B : Mat) : det n (mul n A B) = det n A * det n B := by
  rw [Alt.unique n _ (mul_alt n B) A, det_congr (N := B) (fun i j hi hj => mul_one_left n B i j hi), Int.mul_comm]

def tr (M : Mat) : Mat := fun i j => M j i
theorem tr_alt (n : Nat) : Alt n (fun M => det n (tr M)) := by
  induction n with
  | zero => exact ⟨fun _ _ _ => rfl, fun _ _ _ _ _ _ h => by omega, fun _ _ h => by omega⟩
  | succ n ih =>
    have hd : ∀ M, det (n + 1) (tr M) = sum (n + 1) (fun i => sgn i * M i 0 * det n (tr (minor M i 0))) := fun M => rfl
    refine ⟨fun M N h => det_congr fun i j hi hj => h j i hj hi, fun M i u v a b hi => ?_, fun M i hi h => ?_⟩
    · simp only [hd]
      rw [← sum_lin]
      refine sum_congr fun k hk => ?_
      by_cases hki : k = i
      · subst hki
        have e : ∀ x : Nat → Int, minor (setRow M k x) k 0 = minor M k 0 := by
          intro x; funext p q
          simp only [minor, setRow]
          rw [if_neg (skip_ne k p)]
        simp only [e]
        simp only [setRow, if_true]
        grind
      · obtain ⟨i', hi', hs⟩ : ∃ i', i' < n ∧ skip k i' = i := by
          by_cases h1 : i < k
          · exact ⟨i, by omega, by simp [skip, h1]⟩
          · exact ⟨i - 1, by omega, by unfold skip; rw [if_neg (by omega)]; omega⟩
        have e : ∀ x : Nat → Int, minor (setRow M i x) k 0 = setRow (minor M k 0) i' (fun q => x (skip 0 q)) := by
          intro x; funext p q
          simp only [minor, setRow]
          by_cases hp : p = i'
          · subst hp; rw [if_pos hs, if_pos rfl]
          · rw [if_neg hp, if_neg]
            intro h2
            apply hp
            have h3 : skip k p = skip k i' := by rw [h2, hs]
            unfold skip at h3
            repeat' split at h3
            all_goals omega
        simp only [e]
        have := ih.lin (minor M k 0) i' (fun q => u (skip 0 q)) (fun q => v (skip 0 q)) a b hi'
        rw [this]
        have hx : ∀ x : Nat → Int, setRow M i x k 0 = M k 0 := fun x => by simp [setRow, hki]
        rw [hx, hx, hx]
        grind
    · rw [hd, sum_two (k := i) (l := i + 1) (by omega) hi]
      · have e : det n (tr (minor M i 0)) = det n (tr (minor M (i + 1) 0)) := by
          refine det_congr fun p q hp hq => ?_
          simp only [tr, minor]
          by_cases hqi : q = i
          · subst hqi
            have h1 : skip q q = q + 1 := by simp [skip]
            have h2 : skip (q + 1) q = q := by simp [skip]
            rw [h1, h2]
            exact (h _ (skip_lt hp)).symm
          · have : skip i q = skip (i + 1) q := by unfold skip; repeat' split
                                                   all_goals omega
            rw [this]
        rw [e, h 0 (by omega), sgn_succ]
        grind
      · intro k hk h1 h2
        obtain ⟨i', hi', hs1, hs2⟩ : ∃ i', i' + 1 < n ∧ skip k i' = i ∧ skip k (i' + 1) = i + 1 := by
          by_cases h3 : i < k
          · exact ⟨i, by omega, by simp [skip, h3], by unfold skip; rw [if_pos (by omega)]⟩
          · exact ⟨i - 1, by omega, by unfold skip; rw [if_neg (by omega)]; omega, by unfold skip; rw [if_neg (by omega)]; omega⟩
        have := ih.near (minor M k 0) i' hi' (fun q hq => by
          simp only [minor]
          rw [hs1, hs2]
          exact h _ (skip_lt hq))
        rw [this]
        grind
theorem det_tr (n : Nat) (M : Mat) : det n (tr M) = det n M := by
  rw [Alt.unique n _ (tr_alt n) M, det_congr (N := one) (fun i j _ _ => by simp [tr, one, eq_comm]), det_one]
  omega
/-- Along any row. -/
theorem det_row (n : Nat) (M : Mat) (i : Nat) (hi : i < n + 1) : det (n + 1) M = sum (n + 1) (fun j => sgn (i + j) * M i j * det n (minor M i j)) := by
  have h := (det_alt (n + 1)).rotated M i hi
  have h2 : det (n + 1) M = sgn i * det (n + 1) (Alt.rot M i) := by rw [h, ← Int.mul_assoc, sgn_sq]; omega
  rw [h2, det, ← sum_mul]
  refine sum_congr fun j hj => ?_
  have e : det n (minor (Alt.rot M i) 0 j) = det n (minor M i j) := by
    refine det_congr fun p q hp hq => ?_
    simp only [minor, Alt.rot, skip]
    congr 1
    repeat' split
    all_goals omega
  rw [e, sgn_add]
  simp only [Alt.rot, if_true]
  grind
theorem det_alien (n : Nat) (M : Mat) (i k : Nat) (hi : i < n + 1) (hk : k < n + 1) (hik : i ≠ k) : sum (n + 1) (fun j => sgn (i + j) * M k j * det n (minor M i j)) = 0 := by
  have h := (det_alt (n + 1)).same (setRow M i (M k)) i k hi hk hik (fun j _ => by simp [setRow, Ne.symm hik])
  rw [det_row n _ i hi] at h
  rw [← h]
  refine sum_congr fun j hj => ?_
  have e : minor (setRow M i (M k)) i j = minor M i j := by
    funext p q
    simp only [minor, setRow]
    rw [if_neg (skip_ne i p)]
  rw [e]
  simp [setRow]
/-- The adjugate. -/
def adj (n : Nat) (M : Mat) : Mat := fun a b => sgn (a + b) * det (n - 1) (minor M b a)
theorem mul_adj (n : Nat) (M : Mat) (i k : Nat) (hi : i < n) (hk : k < n) : mul n M (adj n M) i k = if i = k then det n M else 0 := by
  obtain ⟨m, rfl⟩ : ∃ m, n = m + 1 := ⟨n - 1, by omega⟩
  by_cases h : i = k
  · subst h
    rw [if_pos rfl, det_row m M i hi]
    exact sum_congr fun j _ => by simp only [adj, Nat.add_sub_cancel, Nat.add_comm j i]; grind
  · rw [if_neg h, ← det_alien m M k i hk hi (fun e => h e.symm)]
    exact sum_congr fun j _ => by simp only [adj, Nat.add_sub_cancel, Nat.add_comm j k]; grind
theorem adj_mul (n : Nat) (M : Mat) (i k : Nat) (hi : i < n) (hk : k < n) : mul n (adj n M) M i k = if i = k then det n M else 0 := by
  have h := mul_adj n (tr M) k i hk hi
  have e : mul n (adj n M) M i k = mul n (tr M) (adj n (tr M)) k i := by
    refine sum_congr fun j _ => ?_
    have : det (n - 1) (minor (tr M) i j) = det (n - 1) (minor M j i) := by rw [← det_tr (n - 1) (minor M j i)]; rfl
    simp only [adj, tr] at this ⊢
    rw [this, Nat.add_comm j i]
    grind
  rw [e, h, det_tr]
  by_cases h : i = k
  · rw [if_pos h, if_pos h.symm]
  · rw [if_neg h, if_neg (fun e => h e.symm)]

/-! Blocks. -/
/-- X in the upper left corner (t by t), below it Y, on the right of it 0, and S in the lower right corner. -/
def low (t : Nat) (X Y S : Mat) : Mat := fun a b => if a < t then (if b < t then X a b else 0) else if b < t then Y (a - t) b else S (a - t) (b - t)
theorem minor_low_unit (t : Nat) (c : Int) (Y S : Mat) : minor (low (t + 1) (fun a b => if a = b then c else 0) Y S) 0 0 = low t (fun a b => if a = b then c else 0) (fun a b => Y a (b + 1)) S := by
  funext a b
  simp only [minor, low, skip, Nat.not_lt_zero, if_false, Nat.add_lt_add_iff_right, Nat.add_right_cancel_iff]
  by_cases ha : a < t <;> by_cases hb : b < t <;> simp [ha, hb, Nat.add_sub_add_right]
/-- A multiple of the identity in the upper left corner. -/
theorem det_low_unit (t m : Nat) (c : Int) (Y S : Mat) : det (t + m) (low t (fun a b => if a = b then c else 0) Y S) = c ^ t * det m S := by
  induction t generalizing Y with
  | zero =>
    have : low 0 (fun a b => if a = b then c else 0) Y S = S := by funext a b; simp [low]
    rw [this, Nat.zero_add, Int.pow_zero, Int.one_mul]
  | succ t ih =>
    rw [Nat.add_right_comm, det, sum_one (k := 0) (by omega) _ (fun j _ hj => by simp [low, Ne.symm hj]), minor_low_unit, ih]
    simp only [low, sgn_zero, Nat.zero_lt_succ, if_true, Int.pow_succ]
    grind
theorem minor_low_last (t m : Nat) (c : Int) (X Y : Mat) : ∀ a b, a < t + m → b < t + m → minor (low t X Y (fun a b => if a = b then c else 0)) (t + m) (t + m) a b = low t X Y (fun a b => if a = b then c else 0) a b := by
  intro a b ha hb
  simp only [minor, skip, ha, hb, if_true]
/-- A multiple of the identity in the lower right corner. -/
theorem det_low_last (t m : Nat) (c : Int) (X Y : Mat) : det (t + m) (low t X Y (fun a b => if a = b then c else 0)) = det t X * c ^ m := by
  induction m with
  | zero =>
    rw [Int.pow_zero, Int.mul_one]
    exact det_congr fun i j hi hj => by simp [low, show i < t from hi, show j < t from hj]
  | succ m ih =>
    rw [← Nat.add_assoc, ← det_tr, det_row (t + m) _ (t + m) (by omega), sum_one (k := t + m) (by omega) _ (fun j hj hne => by
      simp only [tr, low]
      by_cases h : j < t
      · simp [h, show ¬ t + m < t from by omega]
      · rw [if_neg h, if_neg (by omega), if_neg (by omega)]; simp)]
    have e : det (t + m) (minor (tr (low t X Y (fun a b => if a = b then c else 0))) (t + m) (t + m)) = det (t + m) (low t X Y (fun a b => if a = b then c else 0)) := by
      rw [← det_tr (t + m) (low t X Y _)]
      exact det_congr fun i j hi hj => by simp [minor, tr, skip, hi, hj]
    rw [e, ih]
    have h1 : sgn (t + m + (t + m)) = 1 := by unfold sgn; rw [if_pos (by omega)]
    have h2 : tr (low t X Y (fun a b => if a = b then c else 0)) (t + m) (t + m) = c := by simp [tr, low, show ¬ t + m < t from by omega]
    rw [h1, h2, Int.pow_succ]
    grind

/-! Elimination without fractions. -/
/-- The leading minor of M bordered by row i and column j. -/
def bord (M : Mat) (t i j : Nat) : Mat := fun a b => M (if a < t then a else i) (if b < t then b else j)
def bdet (M : Mat) (t i j : Nat) : Int := det (t + 1) (bord M t i j)
/-- The lower right corner, eliminated by the adjugate of the leading t rows and columns. -/
def schur (M : Mat) (t : Nat) : Mat := fun a b => det t M * M a b - sum t (fun k => sum t (fun l => M a k * adj t M k l * M l b))
theorem split_sum (t m : Nat) (f : Nat → Int) : sum (t + m) f = sum t f + sum m (fun k => f (t + k)) := by
  induction m with
  | zero => simp [sum]
  | succ m ih => rw [← Nat.add_assoc, sum, ih, sum]; omega
/-- Any choice of m rows and m columns beside the leading t. -/
theorem det_schur (M : Mat) (t m : Nat) (r c : Nat → Nat) (N : Mat) (hN : ∀ a b, N a b = M (if a < t then a else r (a - t)) (if b < t then b else c (b - t))) :
    det t (adj t M) * det t M ^ m * det (t + m) N = det t M ^ t * det m (fun a b => schur M t (r a) (c b)) := by
  have h1 := det_mul (t + m) (low t (adj t M) (fun a b => - sum t (fun k => M (r a) k * adj t M k b)) (fun a b => if a = b then det t M else 0)) N
  rw [det_low_last] at h1
  rw [← h1]
  have h2 := det_tr (t + m) (mul (t + m) (low t (adj t M) (fun a b => - sum t (fun k => M (r a) k * adj t M k b)) (fun a b => if a = b then det t M else 0)) N)
  rw [← h2, ← det_tr m, ← det_low_unit t m (det t M) (fun a b => sum t (fun k => adj t M b k * M k (c a)))]
  refine det_congr fun i j hi hj => ?_
  simp only [tr, mul, low, split_sum]
  by_cases hjt : j < t
  · rw [sum_zero (n := m) (fun k hk => by simp [hjt, show ¬ t + k < t from by omega])]
    have e1 : ∀ k, k < t → (if j < t then if k < t then adj t M j k else 0 else if k < t then - sum t (fun l => M (r (j - t)) l * adj t M l k) else if j - t = k - t then det t M else 0) * N k i = adj t M j k * M k (if i < t then i else c (i - t)) := by
      intro k hk
      rw [if_pos hjt, if_pos hk, hN, if_pos hk]
    rw [sum_congr e1, Int.add_zero]
    by_cases hit : i < t
    · rw [if_pos hit, if_pos hit, if_pos hjt]
      have := adj_mul t M j i hjt hit
      rw [mul] at this
      rw [this]
      simp only [eq_comm]
    · rw [if_neg hit, if_neg hit, if_pos hjt]
  · have e1 : ∀ k, k < t → (if j < t then if k < t then adj t M j k else 0 else if k < t then - sum t (fun l => M (r (j - t)) l * adj t M l k) else if j - t = k - t then det t M else 0) * N k i = - sum t (fun l => M (r (j - t)) l * adj t M l k) * M k (if i < t then i else c (i - t)) := by
      intro k hk
      rw [if_neg hjt, if_pos hk, hN, if_pos hk]
    have e2 : sum m (fun k => (if j < t then if t + k < t then adj t M j (t + k) else 0 else if t + k < t then - sum t (fun l => M (r (j - t)) l * adj t M l (t + k)) else if j - t = t + k - t then det t M else 0) * N (t + k) i) = det t M * M (r (j - t)) (if i < t then i else c (i - t)) := by
      rw [sum_one (k := j - t) (by omega) _ (fun k hk hne => by rw [if_neg hjt, if_neg (by omega), if_neg (by omega)]; simp)]
      rw [if_neg hjt, if_neg (by omega), if_pos (by omega), hN, if_neg (by omega), show t + (j - t) - t = j - t from by omega]
    rw [sum_congr e1, e2]
    have e3 : sum t (fun k => - sum t (fun l => M (r (j - t)) l * adj t M l k) * M k (if i < t then i else c (i - t))) = - sum t (fun l => M (r (j - t)) l * sum t (fun k => adj t M l k * M k (if i < t then i else c (i - t)))) := by
      rw [← sum_neg]
      have : ∀ l, l < t → -(M (r (j - t)) l * sum t (fun k => adj t M l k * M k (if i < t then i else c (i - t)))) = sum t (fun k => - (M (r (j - t)) l * adj t M l k) * M k (if i < t then i else c (i - t))) := by
        intro l _
        rw [← sum_mul, ← sum_neg]
        exact sum_congr fun k _ => by grind
      rw [sum_congr this, sum_comm]
      refine sum_congr fun k _ => ?_
      rw [← sum_neg, ← sum_mulr]
    rw [e3]
    by_cases hit : i < t
    · rw [if_pos hit, if_pos hit, if_neg hjt]
      have e4 : sum t (fun l => M (r (j - t)) l * sum t (fun k => adj t M l k * M k i)) = M (r (j - t)) i * det t M := by
        rw [sum_one (k := i) hit _ (fun l hl hne => by
          have := adj_mul t M l i hl hit
          rw [mul, if_neg hne] at this
          rw [this]; simp)]
        have := adj_mul t M i i hit hit
        rw [mul, if_pos rfl] at this
        rw [this]
      rw [e4]; grind
    · rw [if_neg hit, if_neg hit, if_neg hjt]
      simp only [schur]
      have e5 : sum t (fun k => sum t (fun l => M (r (j - t)) k * adj t M k l * M l (c (i - t)))) = sum t (fun l => M (r (j - t)) l * sum t (fun k => adj t M l k * M k (c (i - t)))) := by
        refine sum_congr fun k _ => ?_
        rw [← sum_mul]
        exact sum_congr fun l _ => by grind
      rw [e5]; omega
theorem det_scaled (n : Nat) (c : Int) : det n (fun a b => if a = b then c else 0) = c ^ n := by
  have h := det_low_unit n 0 c (fun _ _ => 0) (fun _ _ => 0)
  simp only [Nat.add_zero, det, Int.mul_one] at h
  rw [← h]
  exact det_congr fun i j hi hj => by simp [low, hi, hj]
theorem det_adj (t : Nat) (M : Mat) : det t (adj t M) * det t M = det t M ^ t := by
  rw [← det_scaled t (det t M), ← det_mul]
  exact det_congr fun i j hi hj => adj_mul t M i j hi hj
/-- Any choice of m rows and m columns beside the leading t, whose determinant is not 0. -/
theorem det_beside (M : Mat) (t m : Nat) (r c : Nat → Nat) (N : Mat) (hN : ∀ a b, N a b = M (if a < t then a else r (a - t)) (if b < t then b else c (b - t))) (h0 : det t M ≠ 0) :
    det t M ^ m * det (t + m) N = det t M * det m (fun a b => schur M t (r a) (c b)) := by
  have h1 := det_schur M t m r c N hN
  have h2 := det_adj t M
  generalize det t (adj t M) = A at *
  generalize det t M = D at *
  generalize det (t + m) N = X at *
  generalize det m (fun a b => schur M t (r a) (c b)) = Y at *
  have h3 : D ^ t * (D ^ m * X) = D ^ t * (D * Y) := by
    have : A * D * (D ^ m * X) = D * (A * D ^ m * X) := by grind
    rw [← h2, this, h1]; grind
  exact Int.eq_of_mul_eq_mul_left (Int.pow_ne_zero h0) h3
theorem bdet_schur (M : Mat) (t i j : Nat) (h0 : det t M ≠ 0) : bdet M t i j = schur M t i j := by
  have h := det_beside M t 1 (fun _ => i) (fun _ => j) (bord M t i j) (fun a b => rfl) h0
  have e : det 1 (fun _ _ => schur M t i j) = schur M t i j := by simp [det, sum, sgn]
  rw [e, Int.pow_succ, Int.pow_zero, Int.one_mul] at h
  exact Int.eq_of_mul_eq_mul_left h0 h
theorem bdet_step (M : Mat) (t i j : Nat) (h0 : det t M ≠ 0) : det t M * bdet M (t + 1) i j = bdet M t i j * bdet M t t t - bdet M t i t * bdet M t t j := by
  have h := det_beside M t 2 (fun a => if a = 0 then t else i) (fun b => if b = 0 then t else j) (bord M (t + 1) i j) (fun a b => by
    simp only [bord]
    congr 1
    all_goals
      repeat' split
      all_goals omega) h0
  rw [bdet_schur M t i j h0, bdet_schur M t t t h0, bdet_schur M t i t h0, bdet_schur M t t j h0]
  have e : det 2 (fun a b => schur M t (if a = 0 then t else i) (if b = 0 then t else j)) = schur M t t t * schur M t i j - schur M t t j * schur M t i t := by
    simp [det, sum, sgn, minor, skip]; grind
  rw [e] at h
  have h2 : det t M * (det t M * bdet M (t + 1) i j) = det t M * (schur M t t t * schur M t i j - schur M t t j * schur M t i t) := by
    rw [← h, bdet]; grind
  have h3 := Int.eq_of_mul_eq_mul_left h0 h2
  rw [h3]; grind
theorem bdet_own (M : Mat) (t : Nat) : bdet M t t t = det (t + 1) M :=
  det_congr fun i j hi hj => by
    simp only [bord]
    congr 1
    all_goals
      split
      all_goals omega
theorem det_zero_row (n : Nat) (M : Mat) (i : Nat) (hi : i < n) (h : ∀ j, j < n → M i j = 0) : det n M = 0 := by
  have h1 := (det_alt n).smul M i (M i) 0 hi
  rw [Int.zero_mul] at h1
  rw [← h1]
  refine det_congr fun p q hp hq => ?_
  simp only [setRow]
  split
  · subst_vars; rw [h q hq]; simp
  · rfl
theorem det_no_pivot (M : Mat) (t n : Nat) (htn : t < n) (h0 : det t M ≠ 0) (h : ∀ i, t ≤ i → i < n → bdet M t i t = 0) : det n M = 0 := by
  obtain ⟨m, rfl⟩ : ∃ m, n = t + (m + 1) := ⟨n - t - 1, by omega⟩
  have h1 := det_beside M t (m + 1) (fun a => t + a) (fun b => t + b) M (fun a b => by
    congr 1
    all_goals
      split
      all_goals omega) h0
  have h2 : det (m + 1) (fun a b => schur M t (t + a) (t + b)) = 0 := by
    rw [← det_tr]
    refine det_zero_row _ _ 0 (by omega) fun j hj => ?_
    simp only [tr, Nat.add_zero]
    rw [← bdet_schur M t (t + j) t h0]
    exact h _ (by omega) (by omega)
  rw [h2, Int.mul_zero] at h1
  rcases Int.mul_eq_zero.1 h1 with h3 | h3
  · exact absurd h3 (Int.pow_ne_zero h0)
  · exact h3
theorem bord_swap (M : Mat) (t p i j : Nat) (hp : t ≤ p) : ∀ a b, a < t → bord (Alt.swap M t p) t i j a b = bord M t i j a b := by
  intro a b ha
  simp only [bord, Alt.swap, setRow, ha, if_true]
  rw [if_neg (by omega), if_neg (by omega)]
theorem bdet_swap (M : Mat) (t p i j : Nat) (hp : t ≤ p) (hi : t ≤ i) : bdet (Alt.swap M t p) t i j = bdet M t (if i = t then p else if i = p then t else i) j :=
  det_congr fun a b ha hb => by
    simp only [bord, Alt.swap, setRow]
    by_cases h : a < t
    · simp only [h, if_true]; rw [if_neg (by omega), if_neg (by omega)]
    · simp only [h, if_false]
      by_cases h1 : i = t
      · subst h1
        by_cases h2 : i = p
        · subst h2; simp
        · simp [h2]
      · by_cases h2 : i = p
        · have h3 : ¬ p = t := by omega
          simp [h2, h3]
        · simp [h1, h2]
theorem det_lead_swap (M : Mat) (t p : Nat) (hp : t ≤ p) : det t (Alt.swap M t p) = det t M :=
  det_congr fun a b ha hb => by
    simp only [Alt.swap, setRow]
    rw [if_neg (by omega), if_neg (by omega)]
end Det
end Go.Proofs.Ythbmmoajfghjbaa
