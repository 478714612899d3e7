/- Both readers of ratios read alike. -/
import Derived.Test.YtkaiekhmcjojoaaDoorPrtS
import Derived.Test.YtkaiekhmcjojoaaDoorRatL
namespace Go.Proofs.YtkaiekhmcjojoaaDoor
open Go.RowKit
set_option linter.unusedSimpArgs false
set_option linter.unusedVariables false
theorem makeR_id {n d : Int} (h : isRatio n d = true) : makeR n d = (n, d) := by
  obtain ⟨h1, h2, _⟩ := isRatio_t h
  rw [makeR, if_pos ⟨isNum_mk h1, isNum_mk (by omega)⟩]
  exact low_of h (by omega) rfl
theorem no47 (n : Int) : ∀ b ∈ Lib.itoa n, inM [47] b = false := by
  intro b hb
  rcases itoa_bytes n b hb with rfl | ⟨h1, h2⟩
  · rfl
  · have : b ≠ 47 := fun e => by subst e; exact absurd h1 (by decide)
    simpa [inM] using this
theorem parse_one : parseI [49] = some 1 := by
  have h : Lib.itoa 1 = [49] := by rw [Lib.itoa, if_neg (by decide)]; exact Lib.decDigits_one (by decide)
  rw [← h]
  exact parseI_itoa (by decide)
theorem ratT_cases {n d : Int} (h : isRatio n d = true) : (d = 1 ∧ ratT n d = Lib.itoa n) ∨ (d ≠ 1 ∧ ratT n d = Lib.itoa n ++ 47 :: Lib.itoa d) := by
  by_cases hd : d = 1
  · exact .inl ⟨hd, by rw [hd] at h ⊢; exact ratT_one h⟩
  · exact .inr ⟨hd, by rw [ratT, h, if_pos rfl, if_neg hd]; simp⟩
/-- The text of a ratio is read back. -/
theorem prI_yes {n d : Int} (h : isRatio n d = true) : prI (ratT n d) = (n, d, true) := by
  obtain ⟨h1, h2, _⟩ := isRatio_t h
  have p1 := parseI_itoa (isNum_mk h1)
  have p2 := parseI_itoa (isNum_mk (show -400000000 ≤ d ∧ d ≤ 400000000 by omega))
  rcases ratT_cases h with ⟨hd, e⟩ | ⟨hd, e⟩
  · rw [prI, e, cut_no (itoa_no (by decide) (by decide))]
    simp only [Bool.false_eq_true, if_false]
    rw [p1, parse_one, prE, if_pos ⟨by rw [hd] at h; exact h, by rw [hd] at h; exact ratT_one h⟩, hd]
  · rw [prI, e, cut_mid (itoa_no (by decide) (by decide))]
    simp only [if_true]
    rw [p1, p2, prE, if_pos ⟨h, e⟩]
theorem prS_yes {n d : Int} (h : isRatio n d = true) : prS (ratT n d) = (n, d, true) := by
  obtain ⟨h1, h2, _⟩ := isRatio_t h
  have p1 := parseI_itoa (isNum_mk h1)
  have p2 := parseI_itoa (isNum_mk (show -400000000 ≤ d ∧ d ≤ 400000000 by omega))
  rcases ratT_cases h with ⟨hd, e⟩ | ⟨hd, e⟩
  · rw [prS, e, splitF_no _ _ (no47 n)]
    have : ([([] : List UInt8) ++ Lib.itoa n].getD 0 []) = Lib.itoa n := by simp
    rw [this, p1, if_neg (by simp)]
    rw [hd] at h
    rw [show (some n : Option Int).getD 0 = n from rfl, makeR_id h, prM, if_pos ⟨h, ratT_one h⟩, hd]
  · rw [prS, e, splitF_mid _ _ _ _ (no47 n) rfl, splitF_no _ _ (no47 d)]
    simp only [List.nil_append, List.getD_cons_zero, List.getD_cons_succ, List.length_cons, List.length_nil]
    rw [p1, p2, if_pos (by omega), show (some n : Option Int).getD 0 = n from rfl, show (some d : Option Int).getD 0 = d from rfl, makeR_id h, prM, if_pos ⟨h, e⟩]
theorem prI_no {l : List UInt8} (h : ∀ n d, isRatio n d = true → ratT n d ≠ l) : prI l = (0, 0, false) := by
  unfold prI
  generalize parseI (Lib.cut l [47]).1 = a
  generalize parseI (if (Lib.cut l [47]).2.2 = true then (Lib.cut l [47]).2.1 else [49]) = b
  unfold prE
  cases a with
  | none => rfl
  | some n =>
    cases b with
    | none => rfl
    | some d => exact if_neg fun e => h n d e.1 e.2
theorem prS_no {l : List UInt8} (h : ∀ n d, isRatio n d = true → ratT n d ≠ l) : prS l = (0, 0, false) := by
  unfold prS prM
  exact if_neg fun e => h _ _ e.1 e.2
theorem prI_prS (l : List UInt8) : prI l = prS l := by
  by_cases h : ∃ n d, isRatio n d = true ∧ ratT n d = l
  · obtain ⟨n, d, h, rfl⟩ := h
    rw [prI_yes h, prS_yes h]
  · have h' : ∀ n d, isRatio n d = true → ratT n d ≠ l := fun n d h1 h2 => h ⟨n, d, h1, h2⟩
    rw [prI_no h', prS_no h']
end Go.Proofs.YtkaiekhmcjojoaaDoor
