/- Both readers of matrices read alike; a matrix's text is read back. -/
import Derived.Test.YtkaiekhmcjojoaaDoorPmxS
namespace Go.Proofs.YtkaiekhmcjojoaaDoor
open Go.RowKit
set_option linter.unusedSimpArgs false
set_option linter.unusedVariables false
theorem allI_map {xs : List Int} (h : ∀ x ∈ xs, isNum x = true) : allI (xs.map Lib.itoa) = some xs := by
  induction xs with
  | nil => rfl
  | cons x xs ih =>
    rw [List.map_cons, allI, parseI_itoa (h x (by simp)), ih (fun y hy => h y (by simp [hy]))]
theorem some_map {xs : List Int} (h : ∀ x ∈ xs, isNum x = true) : (xs.map Lib.itoa).filterMap parseI = xs := by
  induction xs with
  | nil => rfl
  | cons x xs ih =>
    rw [List.map_cons, List.filterMap_cons, parseI_itoa (h x (by simp)), ih (fun y hy => h y (by simp [hy]))]
theorem inM_mk5 : inM mkS = mk5 := by
  funext b
  simp only [inM, mk5, mkS, List.contains, List.elem_cons, List.elem_nil, Bool.or_false]
  cases b == 120 <;> cases b == 91 <;> cases b == 93 <;> cases b == 59 <;> cases b == 32 <;> rfl
theorem ends_cells (a : List UInt8) : endsB (a ++ [93]) = true := by simp [endsB]
theorem take_cells (a : List UInt8) : (a ++ [93]).take ((a ++ [93]).length - 1) = a := by simp
theorem parse_empty : parseI [] = none := parseI_no fun n _ e => itoa_ne n e
theorem mat_nat {r c : Int} {xs : List Int} (h : isMat r c xs = true) : ∃ R C : Nat, r = R ∧ c = C ∧ R ≤ 24 ∧ C ≤ 24 ∧ xs.length = R * C ∧ xs.length ≤ 576 ∧ (∀ x ∈ xs, isNum x = true) ∧ fmtM r c xs = matT R C xs := by
  obtain ⟨h1, h2, h3, h4, h5, h6, h7⟩ := isMat_t h
  obtain ⟨R, rfl⟩ : ∃ R : Nat, r = R := ⟨r.toNat, by omega⟩
  obtain ⟨C, rfl⟩ : ∃ C : Nat, c = C := ⟨c.toNat, by omega⟩
  refine ⟨R, C, rfl, rfl, by omega, by omega, ?_, h7, h6, fmtM_yes h⟩
  have : (xs.length : Int) = ((R * C : Nat) : Int) := by rw [h5]; push_cast; rfl
  omega
/-- The text of a matrix is read back. -/
theorem pmI_yes {r c : Int} {xs : List Int} (h : isMat r c xs = true) : pmI (fmtM r c xs) = (r, c, xs, true) := by
  obtain ⟨R, C, rfl, rfl, hR, hC, hl, hx, hn, hf⟩ := mat_nat h
  have hlen := matT_len hR hC hx hn
  rw [hf, pmI, if_neg (by omega), cut_open]
  simp only []
  rw [cut_x]
  simp only []
  rw [parseI_itoa (isNum_mk (show -400000000 ≤ (R : Int) ∧ (R : Int) ≤ 400000000 by omega)), parseI_itoa (isNum_mk (show -400000000 ≤ (C : Int) ∧ (C : Int) ≤ 400000000 by omega)), pmC,
    if_pos ⟨rfl, rfl, rfl, rfl, ends_cells _⟩, bodyT, take_cells]
  have ha : allI (if cellsT C xs xs.length = [] then [] else fldT (cellsT C xs xs.length)) = some xs := by
    by_cases h0 : xs = []
    · subst h0
      have e0 : cellsT C ([] : List Int) ([] : List Int).length = [] := rfl
      rw [e0, if_pos rfl]; rfl
    · have hp := List.length_pos_iff.2 h0
      rw [if_neg (cellsT_nil C xs hp), fldT, fields_mat mkR_eq C xs hp, allI_map hn]
  rw [ha]
  show pmF _ R C xs = _
  rw [pmF, if_pos ⟨h, hf⟩]
theorem pmS_yes {r c : Int} {xs : List Int} (h : isMat r c xs = true) : pmS (fmtM r c xs) = (r, c, xs, true) := by
  obtain ⟨R, C, rfl, rfl, hR, hC, hl, hx, hn, hf⟩ := mat_nat h
  have hlen := matT_len hR hC hx hn
  rw [hf, pmS, inM_mk5, split_mat, pmT]
  have p1 := parseI_itoa (isNum_mk (show -400000000 ≤ (R : Int) ∧ (R : Int) ≤ 400000000 by omega))
  have p2 := parseI_itoa (isNum_mk (show -400000000 ≤ (C : Int) ∧ (C : Int) ≤ 400000000 by omega))
  by_cases h0 : xs = []
  · subst h0
    rw [if_pos rfl, if_neg (by simp), if_neg (by omega)]
    simp only [List.getD_cons_zero, List.getD_cons_succ, p1, p2, List.length_cons, List.length_nil]
    have : (((Lib.itoa R :: Lib.itoa C :: [[], []]).take (0 + 1 + 1 + 1 + 1 - 1)).drop 2).filterMap parseI = [] := by
      show ([([] : List UInt8)]).filterMap parseI = []
      rw [List.filterMap_cons, parse_empty]; rfl
    rw [this]
    show pmG _ R C [] = _
    rw [pmG, if_pos hf]
  · have hp := List.length_pos_iff.2 h0
    rw [if_neg h0, if_neg (by simp; omega), if_neg (by omega)]
    simp only [List.getD_cons_zero, List.getD_cons_succ, p1, p2]
    have : (((Lib.itoa R :: Lib.itoa C :: (xs.map Lib.itoa ++ [[]])).take ((Lib.itoa R :: Lib.itoa C :: (xs.map Lib.itoa ++ [[]])).length - 1)).drop 2).filterMap parseI = xs := by
      have e : (Lib.itoa R :: Lib.itoa C :: (xs.map Lib.itoa ++ [[]])).length - 1 = xs.length + 1 + 1 := by simp
      rw [e, List.take_succ_cons, List.take_succ_cons, List.drop_succ_cons, List.drop_succ_cons, List.drop_zero, List.take_left' (by simp), some_map hn]
    rw [this]
    show pmG _ R C xs = _
    rw [pmG, if_pos hf]
theorem pmI_no {l : List UInt8} (h : ∀ r c xs, isMat r c xs = true → fmtM r c xs ≠ l) : pmI l = pm0 := by
  unfold pmI
  split
  · rfl
  · unfold pmC
    split
    · generalize allI (bodyT (Lib.cut l [91]).2.1) = o
      cases o with
      | none => rfl
      | some xs => exact if_neg fun e => h _ _ _ e.1 e.2
    · rfl
theorem pmS_no {l : List UInt8} (h : ∀ r c xs, isMat r c xs = true → fmtM r c xs ≠ l) : pmS l = pm0 := by
  unfold pmS pmT
  split
  · rfl
  · rename_i h4
    split
    · rfl
    · refine if_neg fun e => ?_
      rcases Bool.eq_false_or_eq_true (isMat ((parseI ((splitF (inM mkS) [] l).getD 0 [])).getD 0) ((parseI ((splitF (inM mkS) [] l).getD 1 [])).getD 0) ((((splitF (inM mkS) [] l).take ((splitF (inM mkS) [] l).length - 1)).drop 2).filterMap parseI)) with hb | hb
      · exact h _ _ _ hb e
      · rw [fmtM_no hb] at e
        subst e
        exact h4 (by simp [splitF])
theorem pmI_pmS (l : List UInt8) : pmI l = pmS l := by
  by_cases h : ∃ r c xs, isMat r c xs = true ∧ fmtM r c xs = l
  · obtain ⟨r, c, xs, h, rfl⟩ := h
    rw [pmI_yes h, pmS_yes h]
  · have h' : ∀ r c xs, isMat r c xs = true → fmtM r c xs ≠ l := fun r c xs h1 h2 => h ⟨r, c, xs, h1, h2⟩
    rw [pmI_no h', pmS_no h']
/-- Whatever is read: its size. -/
theorem pmS_len (l : List UInt8) : (pmS l).2.2.1.length ≤ 576 := by
  by_cases h : ∃ r c xs, isMat r c xs = true ∧ fmtM r c xs = l
  · obtain ⟨r, c, xs, h, rfl⟩ := h
    rw [pmS_yes h]
    exact (isMat_t h).2.2.2.2.2.2
  · have h' : ∀ r c xs, isMat r c xs = true → fmtM r c xs ≠ l := fun r c xs h1 h2 => h ⟨r, c, xs, h1, h2⟩
    rw [pmS_no h']
    decide
end Go.Proofs.YtkaiekhmcjojoaaDoor
