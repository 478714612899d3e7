/- FnTexts: the law's walk. -/
import Derived.Test.YtkaiekhmcjojoaaDoorPmxS
import Derived.Test.YtkaiekhmcjojoaaDoorRat
import Derived.Test.YtkaiekhmcjojoaaDoorPrtS
import Derived.Test.YtkaiekhmcjojoaaDoorDrawW
import Derived.Test.YtkaiekhmcjojoaaDoorRes
import Derived.Test.YtkaiekhmcjojoaaDoorBox
import Derived.Test.YtkaiekhmcjojoaaDoorNewW
import Derived.Test.YtkaiekhmcjojoaaDoorAppW
import Derived.Test.YtkaiekhmcjojoaaDoorCrossL
import Derived.Deep.RegionWith
import Derived.StillTailTactics
import Derived.Deep.DeepCutAuto
import Derived.Test.YtkaiekhmcjojoaaDoorDrawR
import Derived.Test.YtkaiekhmcjojoaaDoorFmtM
import Derived.Test.YtkaiekhmcjojoaaDoorSplW
import Derived.Test.YtkaiekhmcjojoaaDoorMtxL
import Derived.Deep.RegionHeld3
import Derived.Test.YtkaiekhmcjojoaaDoorMatW
import Derived.Deep.QuietTactic
import Derived.BigQuiet
import Derived.Test.YtkaiekhmcjojoaaDoorCur
import Derived.Test.YtkaiekhmcjojoaaDoorPmxW
namespace Go.Proofs.YtkaiekhmcjojoaaDoor
open Go.RowKit
set_option linter.unusedSimpArgs false
set_option linter.unusedVariables false
theorem allI_map {xs : List Int} (h : ∀ x ∈ xs, isNum x = true) : allI (xs.map Lib.itoa) = some xs := by
  induction xs with
  | nil => rfl
  | cons x xs ih =>
    rw [List.map_cons, allI, parseI_itoa (h x (by simp)), ih (fun y hy => h y (by simp [hy]))]
theorem some_map {xs : List Int} (h : ∀ x ∈ xs, isNum x = true) : (xs.map Lib.itoa).filterMap parseI = xs := by
  induction xs with
  | nil => rfl
  | cons x xs ih =>
    rw [List.map_cons, List.filterMap_cons, parseI_itoa (h x (by simp)), ih (fun y hy => h y (by simp [hy]))]
theorem inM_mk5 : inM mkS = mk5 := by
  funext b
  simp only [inM, mk5, mkS, List.contains, List.elem_cons, List.elem_nil, Bool.or_false]
  cases b == 120 <;> cases b == 91 <;> cases b == 93 <;> cases b == 59 <;> cases b == 32 <;> rfl
theorem ends_cells (a : List UInt8) : endsB (a ++ [93]) = true := by simp [endsB]
theorem take_cells (a : List UInt8) : (a ++ [93]).take ((a ++ [93]).length - 1) = a := by simp
theorem parse_empty : parseI [] = none := parseI_no fun n _ e => itoa_ne n e
theorem mat_nat {r c : Int} {xs : List Int} (h : isMat r c xs = true) : ∃ R C : Nat, r = R ∧ c = C ∧ R ≤ 24 ∧ C ≤ 24 ∧ xs.length = R * C ∧ xs.length ≤ 576 ∧ (∀ x ∈ xs, isNum x = true) ∧ fmtM r c xs = matT R C xs := by
  obtain ⟨h1, h2, h3, h4, h5, h6, h7⟩ := isMat_t h
  obtain ⟨R, rfl⟩ : ∃ R : Nat, r = R := ⟨r.toNat, by omega⟩
  obtain ⟨C, rfl⟩ : ∃ C : Nat, c = C := ⟨c.toNat, by omega⟩
  refine ⟨R, C, rfl, rfl, by omega, by omega, ?_, h7, h6, fmtM_yes h⟩
  have : (xs.length : Int) = ((R * C : Nat) : Int) := by rw [h5]; push_cast; rfl
  omega
/-- The text of a matrix is read back. -/
theorem pmI_yes {r c : Int} {xs : List Int} (h : isMat r c xs = true) : pmI (fmtM r c xs) = (r, c, xs, true) := by
  obtain ⟨R, C, rfl, rfl, hR, hC, hl, hx, hn, hf⟩ := mat_nat h
  have hlen := matT_len hR hC hx hn
  rw [hf, pmI, if_neg (by omega), cut_open]
  simp only []
  rw [cut_x]
  simp only []
  rw [parseI_itoa (isNum_mk (show -400000000 ≤ (R : Int) ∧ (R : Int) ≤ 400000000 by omega)), parseI_itoa (isNum_mk (show -400000000 ≤ (C : Int) ∧ (C : Int) ≤ 400000000 by omega)), pmC,
    if_pos ⟨rfl, rfl, rfl, rfl, ends_cells _⟩, bodyT, take_cells]
  have ha : allI (if cellsT C xs xs.length = [] then [] else fldT (cellsT C xs xs.length)) = some xs := by
    by_cases h0 : xs = []
    · subst h0
      have e0 : cellsT C ([] : List Int) ([] : List Int).length = [] := rfl
      rw [e0, if_pos rfl]; rfl
    · have hp := List.length_pos_iff.2 h0
      rw [if_neg (cellsT_nil C xs hp), fldT, fields_mat mkR_eq C xs hp, allI_map hn]
  rw [ha]
  show pmF _ R C xs = _
  rw [pmF, if_pos ⟨h, hf⟩]
theorem pmS_yes {r c : Int} {xs : List Int} (h : isMat r c xs = true) : pmS (fmtM r c xs) = (r, c, xs, true) := by
  obtain ⟨R, C, rfl, rfl, hR, hC, hl, hx, hn, hf⟩ := mat_nat h
  have hlen := matT_len hR hC hx hn
  rw [hf, pmS, inM_mk5, split_mat, pmT]
  have p1 := parseI_itoa (isNum_mk (show -400000000 ≤ (R : Int) ∧ (R : Int) ≤ 400000000 by omega))
  have p2 := parseI_itoa (isNum_mk (show -400000000 ≤ (C : Int) ∧ (C : Int) ≤ 400000000 by omega))
  by_cases h0 : xs = []
  · subst h0
    rw [if_pos rfl, if_neg (by simp), if_neg (by omega)]
    simp only [List.getD_cons_zero, List.getD_cons_succ, p1, p2, List.length_cons, List.length_nil]
    have : (((Lib.itoa R :: Lib.itoa C :: [[], []]).take (0 + 1 + 1 + 1 + 1 - 1)).drop 2).filterMap parseI = [] := by
      show ([([] : List UInt8)]).filterMap parseI = []
      rw [List.filterMap_cons, parse_empty]; rfl
    rw [this]
    show pmG _ R C [] = _
    rw [pmG, if_pos hf]
  · have hp := List.length_pos_iff.2 h0
    rw [if_neg h0, if_neg (by simp; omega), if_neg (by omega)]
    simp only [List.getD_cons_zero, List.getD_cons_succ, p1, p2]
    have : (((Lib.itoa R :: Lib.itoa C :: (xs.map Lib.itoa ++ [[]])).take ((Lib.itoa R :: Lib.itoa C :: (xs.map Lib.itoa ++ [[]])).length - 1)).drop 2).filterMap parseI = xs := by
      have e : (Lib.itoa R :: Lib.itoa C :: (xs.map Lib.itoa ++ [[]])).length - 1 = xs.length + 1 + 1 := by simp
      rw [e, List.take_succ_cons, List.take_succ_cons, List.drop_succ_cons, List.drop_succ_cons, List.drop_zero, List.take_left' (by simp), some_map hn]
    rw [this]
    show pmG _ R C xs = _
    rw [pmG, if_pos hf]
theorem pmI_no {l : List UInt8} (h : ∀ r c xs, isMat r c xs = true → fmtM r c xs ≠ l) : pmI l = pm0 := by
  unfold pmI
  split
  · rfl
  · unfold pmC
    split
    · generalize allI (bodyT (Lib.cut l [91]).2.1) = o
      cases o with
      | none => rfl
      | some xs => exact if_neg fun e => h _ _ _ e.1 e.2
    · rfl
theorem pmS_no {l : List UInt8} (h : ∀ r c xs, isMat r c xs = true → fmtM r c xs ≠ l) : pmS l = pm0 := by
  unfold pmS pmT
  split
  · rfl
  · rename_i h4
    split
    · rfl
    · refine if_neg fun e => ?_
      rcases Bool.eq_false_or_eq_true (isMat ((parseI ((splitF (inM mkS) [] l).getD 0 [])).getD 0) ((parseI ((splitF (inM mkS) [] l).getD 1 [])).getD 0) ((((splitF (inM mkS) [] l).take ((splitF (inM mkS) [] l).length - 1)).drop 2).filterMap parseI)) with hb | hb
      · exact h _ _ _ hb e
      · rw [fmtM_no hb] at e
        subst e
        exact h4 (by simp [splitF])
theorem pmI_pmS (l : List UInt8) : pmI l = pmS l := by
  by_cases h : ∃ r c xs, isMat r c xs = true ∧ fmtM r c xs = l
  · obtain ⟨r, c, xs, h, rfl⟩ := h
    rw [pmI_yes h, pmS_yes h]
  · have h' : ∀ r c xs, isMat r c xs = true → fmtM r c xs ≠ l := fun r c xs h1 h2 => h ⟨r, c, xs, h1, h2⟩
    rw [pmI_no h', pmS_no h']
/-- Whatever is read: its size. -/
theorem pmS_len (l : List UInt8) : (pmS l).2.2.1.length ≤ 576 := by
  by_cases h : ∃ r c xs, isMat r c xs = true ∧ fmtM r c xs = l
  · obtain ⟨r, c, xs, h, rfl⟩ := h
    rw [pmS_yes h]
    exact (isMat_t h).2.2.2.2.2.2
  · have h' : ∀ r c xs, isMat r c xs = true → fmtM r c xs ≠ l := fun r c xs h1 h2 => h ⟨r, c, xs, h1, h2⟩
    rw [pmS_no h']
    decide
end Go.Proofs.YtkaiekhmcjojoaaDoor
namespace Go.Proofs.YtkaiekhmcjojoaaDoor
open Go.RowKit
set_option linter.unusedSimpArgs false
set_option linter.unusedVariables false

theorem low_parts {n d : Int} (hd : d ≠ 0) : Int.gcd (lowN n d) (lowD n d) = 1 ∧ 0 < lowD n d ∧ lowN n d * d = n * lowD n d := by
  have hg := gcd_pos (n := n) hd
  have h1 : Int.gcd (n / (Int.gcd n d : Int)) (d / (Int.gcd n d : Int)) = 1 := Int.gcd_ediv_gcd_ediv_gcd (by omega)
  obtain ⟨x, hx⟩ : (Int.gcd n d : Int) ∣ n := Int.gcd_dvd_left ..
  obtain ⟨y, hy⟩ : (Int.gcd n d : Int) ∣ d := Int.gcd_dvd_right ..
  unfold lowN lowD
  generalize hG : (Int.gcd n d : Int) = g at *
  have hex : ∀ z : Int, (g * z) / g = z := fun z => Int.mul_ediv_cancel_left _ (by omega)
  have e1 : n / g = x := by rw [hx, hex]
  have e2 : d / g = y := by rw [hy, hex]
  rw [e1, e2] at h1
  by_cases hn : d < 0
  · rw [if_pos hn, if_pos hn]
    have e3 : -n / g = -x := by rw [hx, ← Int.mul_neg, hex]
    have e4 : -d / g = -y := by rw [hy, ← Int.mul_neg, hex]
    rw [e3, e4]
    refine ⟨by rw [Int.gcd_neg, Int.neg_gcd]; exact h1, ?_, ?_⟩
    · rcases Int.lt_trichotomy y 0 with h5 | h5 | h5
      · omega
      · rw [h5] at hy; omega
      · have := Int.mul_pos (show 0 < g by omega) h5; omega
    · rw [hx, hy]; grind
  · rw [if_neg hn, if_neg hn, e1, e2]
    refine ⟨h1, ?_, ?_⟩
    · rcases Int.lt_trichotomy y 0 with h5 | h5 | h5
      · have := Int.mul_neg_of_pos_of_neg (show 0 < g by omega) h5; omega
      · rw [h5] at hy; omega
      · exact h5
    · rw [hx, hy]; grind
/-- Lowest terms are the only ones. -/
theorem low_uniq {a b c d : Int} (h1 : Int.gcd a b = 1) (h2 : Int.gcd c d = 1) (hb : 0 < b) (hd : 0 < d) (h : a * d = c * b) : a = c ∧ b = d := by
  have h3 : b.natAbs ∣ d.natAbs := by
    have : b.natAbs ∣ a.natAbs * d.natAbs := by rw [← Int.natAbs_mul, h, Int.natAbs_mul]; exact Nat.dvd_mul_left _ _
    exact Nat.Coprime.dvd_of_dvd_mul_left (k := b.natAbs) (m := a.natAbs) (by rw [Nat.Coprime, Nat.gcd_comm]; exact h1) this
  have h4 : d.natAbs ∣ b.natAbs := by
    have : d.natAbs ∣ c.natAbs * b.natAbs := by rw [← Int.natAbs_mul, ← h, Int.natAbs_mul]; exact Nat.dvd_mul_left _ _
    exact Nat.Coprime.dvd_of_dvd_mul_left (k := d.natAbs) (m := c.natAbs) (by rw [Nat.Coprime, Nat.gcd_comm]; exact h2) this
  have h5 := Nat.dvd_antisymm h3 h4
  have h6 : b = d := by omega
  subst h6
  exact ⟨Int.eq_of_mul_eq_mul_right (by omega) h, rfl⟩
theorem low_of {a b n d : Int} (hr : isRatio a b = true) (hd : d ≠ 0) (h : a * d = n * b) : low n d = (a, b) := by
  obtain ⟨h1, h2, h3⟩ := low_parts (n := n) hd
  obtain ⟨g1, g2, g3⟩ := isRatio_t hr
  have h4 : lowN n d * b = a * lowD n d := by
    have : d * (lowN n d * b) = d * (a * lowD n d) := by
      have e1 : d * (lowN n d * b) = (lowN n d * d) * b := by grind
      have e2 : d * (a * lowD n d) = (a * d) * lowD n d := by grind
      rw [e1, e2, h3, h]; grind
    exact Int.eq_of_mul_eq_mul_left hd this
  obtain ⟨e1, e2⟩ := low_uniq h1 g3 h2 (by omega) h4
  have h5 : lowOk n d = true := by simp [lowOk, hd, e1, e2, hr]
  rw [low, if_pos h5, e1, e2]
theorem not_ratio : isRatio 0 0 = false := by decide
theorem low_cross {n d : Int} (h : isRatio (low n d).1 (low n d).2 = true) : d ≠ 0 ∧ (low n d).1 * d = n * (low n d).2 := by
  unfold low at h ⊢
  split at h
  · rename_i h1
    simp only [lowOk, Bool.and_eq_true, bne_iff_ne] at h1
    rw [if_pos (by simp [lowOk, h1])]
    exact ⟨h1.1, (low_parts h1.1).2.2⟩
  · rw [not_ratio] at h; cases h

theorem addR_comm (a b c d : Int) : addR a b c d = addR c d a b := by
  unfold addR
  rw [Int.add_comm (a * d), Int.mul_comm b d]
  simp only [and_comm]
theorem mulR_comm (a b c d : Int) : mulR a b c d = mulR c d a b := by
  unfold mulR
  rw [Int.mul_comm a c, Int.mul_comm b d]
  simp only [and_comm]
theorem add_undone {a b c d : Int} (h : isRatio (addR a b c d).1 (addR a b c d).2 = true) : addR (addR a b c d).1 (addR a b c d).2 (negR c d).1 (negR c d).2 = (a, b) := by
  by_cases hr : isRatio a b = true ∧ isRatio c d = true
  · have he : addR a b c d = low (a * d + c * b) (b * d) := by rw [addR, if_pos hr]
    rw [he] at h ⊢
    obtain ⟨h1, h2⟩ := low_cross h
    have hn : negR c d = (-c, d) := by rw [negR, if_pos hr.2]
    obtain ⟨g1, g2, g3⟩ := isRatio_t hr.1
    obtain ⟨k1, k2, k3⟩ := isRatio_t hr.2
    obtain ⟨m1, m2, m3⟩ := isRatio_t h
    have hn2 : isRatio (-c) d = true := isRatio_mk (by omega) k2 (by rw [Int.neg_gcd]; exact k3)
    rw [hn]
    generalize low (a * d + c * b) (b * d) = p at *
    obtain ⟨s, t⟩ := p
    simp only at h h2 m1 m2 ⊢
    rw [addR, if_pos ⟨h, hn2⟩]
    refine low_of hr.1 (Int.mul_ne_zero (by omega) (by omega)) ?_
    grind
  · have he : addR a b c d = (0, 0) := by rw [addR, if_neg hr]
    rw [he, not_ratio] at h; cases h
theorem div_undone {a b c d : Int} (h : isRatio (divR' a b c d).1 (divR' a b c d).2 = true) : mulR (divR' a b c d).1 (divR' a b c d).2 c d = (a, b) := by
  by_cases hr : isRatio a b = true ∧ isRatio c d = true ∧ c ≠ 0
  · have he : divR' a b c d = low (a * d) (b * c) := by rw [divR', if_pos hr]
    rw [he] at h ⊢
    obtain ⟨h1, h2⟩ := low_cross h
    obtain ⟨g1, g2, g3⟩ := isRatio_t hr.1
    obtain ⟨k1, k2, k3⟩ := isRatio_t hr.2.1
    obtain ⟨m1, m2, m3⟩ := isRatio_t h
    generalize low (a * d) (b * c) = p at *
    obtain ⟨s, t⟩ := p
    simp only at h h2 m1 m2 ⊢
    rw [mulR, if_pos ⟨h, hr.2.1⟩]
    refine low_of hr.1 (Int.mul_ne_zero (by omega) (by omega)) ?_
    grind
  · have he : divR' a b c d = (0, 0) := by rw [divR', if_neg hr]
    rw [he, not_ratio] at h; cases h
theorem cmp_law (a b c d : Int) : (cmpR a b c d = 2 ∧ cmpR c d a b = 2) ∨ (cmpR a b c d = - cmpR c d a b ∧ (-1 ≤ cmpR a b c d ∧ cmpR a b c d ≤ 1) ∧ (cmpR a b c d = 0 ↔ (a = c ∧ b = d))) := by
  by_cases hr : isRatio a b = true ∧ isRatio c d = true
  · right
    obtain ⟨g1, g2, g3⟩ := isRatio_t hr.1
    obtain ⟨k1, k2, k3⟩ := isRatio_t hr.2
    rw [cmpR, if_pos hr, cmpR, if_pos hr.symm]
    have hu : a * d = c * b → a = c ∧ b = d := fun h => low_uniq g3 k3 (by omega) (by omega) h
    rcases Int.lt_trichotomy (a * d) (c * b) with h | h | h
    · rw [if_pos h, if_neg (by omega), if_pos h]
      refine ⟨by omega, by omega, fun e => by omega, fun e => ?_⟩
      rw [e.1, e.2] at h; omega
    · rw [if_neg (by omega), if_neg (by omega), if_neg (by omega), if_neg (by omega)]
      exact ⟨by omega, by omega, fun _ => hu h, fun _ => rfl⟩
    · rw [if_neg (by omega), if_pos h, if_pos h]
      refine ⟨by omega, by omega, fun e => by omega, fun e => ?_⟩
      rw [e.1, e.2] at h; omega
  · left
    rw [cmpR, if_neg hr, cmpR, if_neg (fun h => hr h.symm)]
    exact ⟨rfl, rfl⟩
/-- How a ratio is rounded. -/
theorem round_law {n d : Int} (hd : 0 < d) : n / d * d ≤ n ∧ n < (n / d + 1) * d ∧ ((2 * n + d) / (2 * d) = n / d ∨ (2 * n + d) / (2 * d) = n / d + 1) ∧
    2 * (((2 * n + d) / (2 * d)) * d - n).natAbs ≤ d := by
  have h1 := Int.mul_ediv_add_emod n d
  have h2 := Int.emod_nonneg n (show d ≠ 0 by omega)
  have h3 := Int.emod_lt_of_pos n hd
  have h4 := Int.mul_ediv_add_emod (2 * n + d) (2 * d)
  have h5 := Int.emod_nonneg (2 * n + d) (show 2 * d ≠ 0 by omega)
  have h6 := Int.emod_lt_of_pos (2 * n + d) (show 0 < 2 * d by omega)
  generalize hq : n / d = q at *
  generalize hr : n % d = r at *
  generalize hQ : (2 * n + d) / (2 * d) = Q at *
  generalize hR : (2 * n + d) % (2 * d) = R at *
  have e1 : (q + 1) * d = d * q + d := by grind
  have e2 : 2 * d * Q = 2 * (d * Q) := by grind
  rw [e2] at h4
  rw [Int.mul_comm q d, e1, Int.mul_comm Q d]
  refine ⟨by omega, by omega, ?_, by omega⟩
  rcases Int.lt_trichotomy Q q with h | h | h
  · exfalso
    have : d * Q ≤ d * (q - 1) := Int.mul_le_mul_of_nonneg_left (by omega) (by omega)
    rw [Int.mul_sub] at this
    omega
  · exact .inl h
  · right
    rcases Int.lt_trichotomy Q (q + 1) with h' | h' | h'
    · omega
    · exact h'
    · exfalso
      have : d * (q + 2) ≤ d * Q := Int.mul_le_mul_of_nonneg_left (by omega) (by omega)
      rw [Int.mul_add] at this
      omega
end Go.Proofs.YtkaiekhmcjojoaaDoor
namespace Go.Proofs.YtkaiekhmcjojoaaDoor
open Go.RowKit
set_option linter.unusedSimpArgs false
set_option linter.unusedVariables false
theorem makeR_id {n d : Int} (h : isRatio n d = true) : makeR n d = (n, d) := by
  obtain ⟨h1, h2, _⟩ := isRatio_t h
  rw [makeR, if_pos ⟨isNum_mk h1, isNum_mk (by omega)⟩]
  exact low_of h (by omega) rfl
theorem no47 (n : Int) : ∀ b ∈ Lib.itoa n, inM [47] b = false := by
  intro b hb
  rcases itoa_bytes n b hb with rfl | ⟨h1, h2⟩
  · rfl
  · have : b ≠ 47 := fun e => by subst e; exact absurd h1 (by decide)
    simpa [inM] using this
theorem parse_one : parseI [49] = some 1 := by
  have h : Lib.itoa 1 = [49] := by rw [Lib.itoa, if_neg (by decide)]; exact Lib.decDigits_one (by decide)
  rw [← h]
  exact parseI_itoa (by decide)
theorem ratT_cases {n d : Int} (h : isRatio n d = true) : (d = 1 ∧ ratT n d = Lib.itoa n) ∨ (d ≠ 1 ∧ ratT n d = Lib.itoa n ++ 47 :: Lib.itoa d) := by
  by_cases hd : d = 1
  · exact .inl ⟨hd, by rw [hd] at h ⊢; exact ratT_one h⟩
  · exact .inr ⟨hd, by rw [ratT, h, if_pos rfl, if_neg hd]; simp⟩
/-- The text of a ratio is read back. -/
theorem prI_yes {n d : Int} (h : isRatio n d = true) : prI (ratT n d) = (n, d, true) := by
  obtain ⟨h1, h2, _⟩ := isRatio_t h
  have p1 := parseI_itoa (isNum_mk h1)
  have p2 := parseI_itoa (isNum_mk (show -400000000 ≤ d ∧ d ≤ 400000000 by omega))
  rcases ratT_cases h with ⟨hd, e⟩ | ⟨hd, e⟩
  · rw [prI, e, cut_no (itoa_no (by decide) (by decide))]
    simp only [Bool.false_eq_true, if_false]
    rw [p1, parse_one, prE, if_pos ⟨by rw [hd] at h; exact h, by rw [hd] at h; exact ratT_one h⟩, hd]
  · rw [prI, e, cut_mid (itoa_no (by decide) (by decide))]
    simp only [if_true]
    rw [p1, p2, prE, if_pos ⟨h, e⟩]
theorem prS_yes {n d : Int} (h : isRatio n d = true) : prS (ratT n d) = (n, d, true) := by
  obtain ⟨h1, h2, _⟩ := isRatio_t h
  have p1 := parseI_itoa (isNum_mk h1)
  have p2 := parseI_itoa (isNum_mk (show -400000000 ≤ d ∧ d ≤ 400000000 by omega))
  rcases ratT_cases h with ⟨hd, e⟩ | ⟨hd, e⟩
  · rw [prS, e, splitF_no _ _ (no47 n)]
    have : ([([] : List UInt8) ++ Lib.itoa n].getD 0 []) = Lib.itoa n := by simp
    rw [this, p1, if_neg (by simp)]
    rw [hd] at h
    rw [show (some n : Option Int).getD 0 = n from rfl, makeR_id h, prM, if_pos ⟨h, ratT_one h⟩, hd]
  · rw [prS, e, splitF_mid _ _ _ _ (no47 n) rfl, splitF_no _ _ (no47 d)]
    simp only [List.nil_append, List.getD_cons_zero, List.getD_cons_succ, List.length_cons, List.length_nil]
    rw [p1, p2, if_pos (by omega), show (some n : Option Int).getD 0 = n from rfl, show (some d : Option Int).getD 0 = d from rfl, makeR_id h, prM, if_pos ⟨h, e⟩]
theorem prI_no {l : List UInt8} (h : ∀ n d, isRatio n d = true → ratT n d ≠ l) : prI l = (0, 0, false) := by
  unfold prI
  generalize parseI (Lib.cut l [47]).1 = a
  generalize parseI (if (Lib.cut l [47]).2.2 = true then (Lib.cut l [47]).2.1 else [49]) = b
  unfold prE
  cases a with
  | none => rfl
  | some n =>
    cases b with
    | none => rfl
    | some d => exact if_neg fun e => h n d e.1 e.2
theorem prS_no {l : List UInt8} (h : ∀ n d, isRatio n d = true → ratT n d ≠ l) : prS l = (0, 0, false) := by
  unfold prS prM
  exact if_neg fun e => h _ _ e.1 e.2
theorem prI_prS (l : List UInt8) : prI l = prS l := by
  by_cases h : ∃ n d, isRatio n d = true ∧ ratT n d = l
  · obtain ⟨n, d, h, rfl⟩ := h
    rw [prI_yes h, prS_yes h]
  · have h' : ∀ n d, isRatio n d = true → ratT n d ≠ l := fun n d h1 h2 => h ⟨n, d, h1, h2⟩
    rw [prI_no h', prS_no h']
end Go.Proofs.YtkaiekhmcjojoaaDoor
namespace Go.Proofs.YtkaiekhmcjojoaaDoor
open Go.RowKit
set_option linter.unusedSimpArgs false
set_option linter.unusedVariables false

/-- What a draw of a matrix keeps: all below B but the cursor. -/
def KB (B : Nat) (W w : World) (p : Nat) : Prop := Cur w p ∧ W.heap.size ≤ w.heap.size ∧ w.os = W.os ∧ w.tape = W.tape ∧ w.output = W.output ∧ ∀ k, k < B → k ≠ p → w.heap[k]? = W.heap[k]?
namespace KB
variable {B : Nat} {W w w' : World} {p : Nat}
theorem start (h : Cur w p) : KB w.heap.size w w p := ⟨h, Nat.le_refl _, rfl, rfl, rfl, fun _ _ _ => rfl⟩
theorem startB (h : Cur w p) : KB B w w p := ⟨h, Nat.le_refl _, rfl, rfl, rfl, fun _ _ _ => rfl⟩
theorem size (h : KB B W w p) : W.heap.size ≤ w.heap.size := h.2.1
theorem kept (h : KB B W w p) (hB : B ≤ W.heap.size) (hk : Kept w w' p) : KB B W w' p :=
  ⟨hk.1, Nat.le_trans h.2.1 hk.2.size, hk.2.os.trans h.2.2.1, hk.2.tape.trans h.2.2.2.1, hk.2.output.trans h.2.2.2.2.1, fun k h1 hne => (hk.2.block k (by have := h.2.1; omega) (by simpa using hne)).trans (h.2.2.2.2.2 k h1 hne)⟩
theorem trans {B' : Nat} (h : KB B W w p) (hB : B ≤ B') (hk : KB B' w w' p) : KB B W w' p :=
  ⟨hk.1, Nat.le_trans h.2.1 hk.2.1, hk.2.2.1.trans h.2.2.1, hk.2.2.2.1.trans h.2.2.2.1, hk.2.2.2.2.1.trans h.2.2.2.2.1, fun k h1 hne => (hk.2.2.2.2.2 k (by omega) hne).trans (h.2.2.2.2.2 k h1 hne)⟩
theorem call (h : KB B W w p) (hB : B ≤ W.heap.size) (hb : Below w.heap.size w w') : KB B W w' p :=
  ⟨h.1.call hb, Nat.le_trans h.2.1 hb.size, hb.os.trans h.2.2.1, hb.tape.trans h.2.2.2.1, hb.output.trans h.2.2.2.2.1, fun k h1 hne => (hb.block k (by have := h.2.1; omega)).trans (h.2.2.2.2.2 k h1 hne)⟩
theorem alloc (h : KB B W w p) (hB : B ≤ W.heap.size) (o : Obj) : KB B W (w.alloc o) p := h.call hB ((Below.refl _ _).alloc (Nat.le_refl _) o)
theorem grown {g : Nat} (h : KB B W w p) (hB : B ≤ W.heap.size) (hg : w.grownBy w' (some g)) (hgB : B ≤ g) (hp : p < g) : KB B W w' p :=
  ⟨h.1.below ((Below.refl (p + 1) w).grown hg h.1.lt (fun k hk => by cases hk; exact hp)), Nat.le_trans h.2.1 hg.size, hg.os.trans h.2.2.1, hg.tape.trans h.2.2.2.1, hg.output.trans h.2.2.2.2.1, fun k h1 hne => (hg.block k (by have := h.2.1; omega) (by simp; omega)).trans (h.2.2.2.2.2 k h1 hne)⟩
theorem set {a : Addr} (h : KB B W w p) (hgB : B ≤ a.block) (hp : p < a.block) (v : Value) : KB B W (w.setCell a v) p :=
  ⟨h.1.set hp v, by rw [World.size_setCell]; exact h.2.1, h.2.2.1, h.2.2.2.1, h.2.2.2.2.1, fun k h1 hne => (Below.heap_setCell w a v k (by omega)).trans (h.2.2.2.2.2 k h1 hne)⟩
theorem drewN (h : KB B W w p) (n : Nat) : KB B W (w.drewN n) p := h
theorem toKept (h : KB w.heap.size w w' p) : Kept w w' p := ⟨h.1, ⟨h.2.2.1, h.2.2.2.1, h.2.2.2.2.1, h.2.1, fun k h1 hne => h.2.2.2.2.2 k h1 (by simpa using hne)⟩⟩
theorem below {C : Nat} {V : World} (h : KB B W w p) (hV : Below C V W) (hC : C ≤ B) (hp : C ≤ p) (hs : C ≤ W.heap.size) : Below C V w :=
  ⟨h.2.2.1.trans hV.os, h.2.2.2.1.trans hV.tape, h.2.2.2.2.1.trans hV.output, Nat.le_trans hV.size h.2.1, fun k h1 => (h.2.2.2.2.2 k (by omega) (by omega)).trans (hV.block k h1)⟩
end KB
theorem Box3.kept {w w' : World} {b p : Nat} {x y z : Value} (h : Box3 w b x y z) (hk : Kept w w' p) (hne : b ≠ p) : Box3 w' b x y z := h.grown hk.2 (by simpa using hne)
theorem Own.kept1 {w w' : World} {lo g n c p : Nat} {xs : List Int} (h : Own w lo (.slice (some ⟨g, 0, none⟩) n c) xs) (hk : Kept w w' p) (hne : g ≠ p) : Own w' lo (.slice (some ⟨g, 0, none⟩) n c) xs := Own.keep h hk.2 (.inr (by simp [Value.ownBlock, hne]))
theorem Own.keptB {w w' : World} {lo p : Nat} {s : Value} {xs : List Int} (h : Own w lo s xs) (hk : Kept w w' p) (hp : p < lo) : Own w' lo s xs := by
  refine Own.keep h hk.2 ?_
  cases e : s.ownBlock with
  | none => exact .inl rfl
  | some k =>
    have := Own.lt h k e
    exact .inr (by intro e2; injection e2 with e2; omega)
theorem own_put {w : World} {lo g cap n : Nat} {f : Nat → Int} (h : Own w lo (.slice (some ⟨g, 0, none⟩) n cap) (tab n f)) (k : Nat) (v : Int) :
    Own (w.setCell ⟨g, k, none⟩ (.int .i64 v)) lo (.slice (some ⟨g, 0, none⟩) n cap) (tab n (fun q => if q = k then v else f q)) ∧ w.grownBy (w.setCell ⟨g, k, none⟩ (.int .i64 v)) (some g) :=
  own_store h (tab_set (fun _ => by simp) (fun i _ hne => by simp [hne]))
theorem i64_le (x : Int) : IntKind.i64.wrap x ≤ 9223372036854775807 := by
  have e1 : IntKind.i64.bits = 64 := rfl
  have e2 : IntKind.i64.signed = true := rfl
  unfold IntKind.wrap
  simp only [e1, e2]
  simp only [Bool.true_and, ge_iff_le, decide_eq_true_eq]
  split <;> omega
set_option maxHeartbeats 4000000 in
theorem l3Draw (p : Nat) (r c most : Int) (N : Nat) (w : World) (hc : Cur w p) (hN : Hid (r * c = (N : Int))) (h : N ≤ 1000) :
    Calls Tryd.prog 70 #[.pointer (some ⟨p, 0, none⟩), .int .i64 r, .int .i64 c, .int .i64 most] w fun e w' =>
      (∃ (g : Nat) (f : Nat → Int), e = .returned (mv r c (.slice (some ⟨g, 0, none⟩) N N)) ∧ Own w' w.heap.size (.slice (some ⟨g, 0, none⟩) N N) (tab N f)) ∧ KB w.heap.size w w' p := by
  have hp := hc.lt
  have HK := hide ((KB.start hc).alloc (Nat.le_refl _) (.cells #[.int .i64 0, .int .i64 0, .slice none 0 0] 30)); clear hc
  go_enter Tryd.func70, Tryd.ntmps70
  go_wp2_with fail
  refine (specL3New r c N _ hN (by omega)).mono ?_; rintro e w1 ⟨rfl, ho, hb⟩
  have hz := hb.size
  simp only [World.size_alloc] at ho hz
  have HO : Hid (Own w1 (w.heap.size + 1) (.slice (some ⟨w.heap.size + 1 + 1, 0, none⟩) N N) (tab N (fun _ => 0))) := by rw [Hid, ← tab_zeros]; exact ho
  have hlt := Own.lt ho _ rfl
  have HK1 := hide (HK.out.call (Nat.le_refl _) hb)
  have B0 := hide ((Box3.new (x := .int .i64 0) (y := .int .i64 0) (z := .slice none 0 0) w w.heap.size 30 rfl).call hb)
  clear ho hb HK
  simp only [World.size_alloc]
  go_wp2_with fail
  go_loopw [10] (fun i wr => ∃ (k : Nat) (f : Nat → Int), k ≤ N ∧ i = .int .i64 k ∧ Own wr (w.heap.size + 1) (.slice (some ⟨w.heap.size + 1 + 1, 0, none⟩) N N) (tab N f) ∧
      Box3 wr w.heap.size (.int .i64 0) (.int .i64 0) (.slice none 0 0) ∧ Box3 wr w1.heap.size (.int .i64 r) (.int .i64 c) (.slice (some ⟨w.heap.size + 1 + 1, 0, none⟩) N N) ∧ KB w.heap.size w wr p) (fun i _ => N - (intOf i).toNat)
  case atStart =>
    exact ⟨0, _, Nat.zero_le _, rfl, HO.out.alloc _, B0.out.alloc _, Box3.new _ _ _ rfl, HK1.out.alloc (Nat.le_refl _) _⟩
  case round =>
    obtain ⟨k, f, hk, rfl, ho, b1, b2, hK⟩ := hrel
    have hB1 := hide b1
    have hB2 := hide b2
    have HO := hide ho
    have HK := hide hK
    clear ho b1 hK
    have zz := HK.out.size
    obtain ⟨⟨d0, d1, d2⟩, _⟩ := b2
    by_cases hlt' : k < N
    · have hcur := hide HK.out.1
      go_wp2_with fail
      go_region_with (go_at_call 54; go_loud (refine (l1Below_any p _ _ (by exact hcur.out) (i64_le _)).mono ?_; rintro e w5 ⟨⟨x, rfl, x0, x1⟩, hk5⟩; have KO := Own.kept1 (by exact HO.out) hk5 (by omega); have c5 := own_cell KO hlt'; have f5 := own_free KO k; have b5 := Box3.kept (by exact hB2.out) hk5 (by omega); obtain ⟨⟨n0, n1, n2⟩, _⟩ := b5; clear d0 d1 d2; have KO5 := hide KO; clear KO))
      all_goals go_wp2_with fail
      all_goals exact ⟨⟨k + 1, _, by omega, by go_num, (own_put KO5.out k _).1, Box3.set (Box3.kept (w := wr.drew) hB1.out hk5 (by omega)) (by dsimp only; omega) _, Box3.set (Box3.kept (w := wr.drew) hB2.out hk5 (by omega)) (by dsimp only; omega) _, KB.set (KB.kept (w := wr.drew) HK.out (Nat.le_refl _) hk5) (by dsimp only; omega) (by dsimp only; omega) _⟩, by simp [intOf]; omega⟩
    · have hkk : k = N := by omega
      obtain ⟨⟨m0, m1, m2⟩, _⟩ := Box3.stored hB1.out (.int .i64 r) (.int .i64 c) (.slice (some ⟨w.heap.size + 1 + 1, 0, none⟩) N N)
      obtain ⟨⟨e0, e1, e2⟩, g0, g1, g2⟩ := hB1.out
      go_wp2
      exact bodyPost_ret (v := mv (r) (c) (.slice (some ⟨w.heap.size + 1 + 1, 0, none⟩) N N)) (by first | (simp [results, Tryd.results70, go_sem, m0, m1, m2]; done) | (simp [results, Tryd.results70, go_sem]; done)) rfl ⟨⟨_, f, rfl, (((Own.set HO.out (own_ne (by dsimp only; omega)) _).set (own_ne (by dsimp only; omega)) _).set (own_ne (by dsimp only; omega)) _).mono (by omega)⟩, ((HK.out.set (by dsimp only; omega) (by dsimp only; omega) _).set (by dsimp only; omega) (by dsimp only; omega) _).set (by dsimp only; omega) (by dsimp only; omega) _⟩
/-- A matrix that a draw gives: its cells lie in a block of its own from B on. -/
def DrawM (B : Nat) (W : World) (p : Nat) (e : Ending) (w' : World) : Prop :=
  (∃ (r c : Int) (A : Option Addr) (n cap : Nat) (xs : List Int), e = .returned (mv r c (.slice A n cap)) ∧ n ≤ 1001 ∧ Own w' B (.slice A n cap) xs) ∧ KB B W w' p
theorem KB.grownO {B : Nat} {W w w' : World} {p : Nat} {s : Value} {xs : List Int} (h : KB B W w p) (hB : B ≤ W.heap.size) (hg : w.grownBy w' s.ownBlock) (ho : Own w B s xs) (hp : p < B) : KB B W w' p := by
  cases e : s.ownBlock with
  | none =>
    rw [e] at hg
    exact h.call hB ⟨hg.os, hg.tape, hg.output, hg.size, fun k hk => hg.block k hk (by simp)⟩
  | some g =>
    rw [e] at hg
    have := Own.lt ho g e
    exact h.grown hB hg this.1 (by omega)
set_option maxHeartbeats 4000000 in
theorem l3Spoil (p B : Nat) (r c : Int) (A : Option Addr) (n cap : Nat) (xs : List Int) (w : World) (hc : Cur w p) (ho : Own w B (.slice A n cap) xs) (hp : p < B) (hB : B ≤ w.heap.size) (hn : n ≤ 1000) :
    Calls Tryd.prog 72 #[.pointer (some ⟨p, 0, none⟩), mv r c (.slice A n cap)] w (DrawM B w p) := by
  obtain ⟨rfl, _⟩ := Own.reads ho
  have hl := Own.lt ho
  have HK1 := hide (((KB.startB (B := B) hc).alloc hB (.cells #[.int .i64 r, .int .i64 c, .slice A xs.length cap] 30)).alloc hB (.cells #[.int .i64 0, .int .i64 0, .slice none 0 0] 30))
  have HO1 := hide ((ho.alloc (.cells #[.int .i64 r, .int .i64 c, .slice A xs.length cap] 30)).alloc (.cells #[.int .i64 0, .int .i64 0, .slice none 0 0] 30))
  have B0 := hide ((Box3.new (x := .int .i64 r) (y := .int .i64 c) (z := .slice A xs.length cap) w w.heap.size 30 rfl).alloc (.cells #[.int .i64 0, .int .i64 0, .slice none 0 0] 30))
  have B1 := hide (Box3.new (x := .int .i64 0) (y := .int .i64 0) (z := .slice none 0 0) (w.alloc (.cells #[.int .i64 r, .int .i64 c, .slice A xs.length cap] 30)) (w.heap.size + 1) 30 (by simp))
  clear hc ho
  go_enter Tryd.func72, Tryd.ntmps72
  go_wp2_with fail
  refine (l1Below p 40 _ HK1.out.1 (by omega) (by omega)).mono ?_; rintro e w1 ⟨⟨x, rfl, x0, x1⟩, hk⟩
  have HK2 := hide (HK1.out.kept hB hk)
  have HO2 := hide (Own.keptB HO1.out hk hp)
  have b0 := hide (Box3.kept B0.out hk (by omega))
  have b1 := hide (Box3.kept B1.out hk (by omega))
  clear HK1 HO1 B0 B1 hk
  by_cases e0 : x = 0
  · have d0 : (x == 0) = true := by simpa using e0
    obtain ⟨⟨c0, c1, c2⟩, _⟩ := b0.out
    clear e0
    go_wp2_with fail
    have HK3 := hide (HK2.out.alloc hB (.cells #[.int .i64 (-1), .int .i64 0, .int .i64 7, .int .i64 (wrap64 (r + 1))] 3))
    have hr := w64_in (r + 1)
    refine (l1PickInt p w1.heap.size 4 4 _ HK3.out.1 (by have := HK2.out.1.lt; omega) (by simp) (by omega) (by omega) ?_).mono ?_
    · intro k hk
      have hk' : k = 0 ∨ k = 1 ∨ k = 2 ∨ k = 3 := by omega
      clear hk
      rcases hk' with rfl | rfl | rfl | rfl
      · exact ⟨-1, by go_simp, by omega, by omega⟩
      · exact ⟨0, by go_simp, by omega, by omega⟩
      · exact ⟨7, by go_simp, by omega, by omega⟩
      · exact ⟨wrap64 (r + 1), by go_simp, by omega, by omega⟩
    rintro e w3 ⟨⟨y, rfl, y0, y1⟩, hk⟩
    have HK4 := hide (HK3.out.kept hB hk)
    have HO4 := hide (Own.keptB (HO2.out.alloc _) hk hp)
    have n0 := hide (Box3.kept (b0.out.alloc _) hk (by omega))
    have n1 := hide (Box3.kept (b1.out.alloc _) hk (by omega))
    clear hk b0 b1 HK2 HK3 HO2 c0 c1 c2
    obtain ⟨⟨m0, m1, m2⟩, _⟩ := Box3.stored (n1.out.set (p := ⟨w.heap.size, 0, none⟩) (by dsimp only; omega) (.int .i64 y)) (.int .i64 y) (.int .i64 c) (.slice A xs.length cap)
    obtain ⟨⟨c0, c1, c2⟩, f0, f1, f2⟩ := n0.out
    obtain ⟨⟨g0, g1, g2⟩, k0, k1, k2⟩ := n1.out
    go_wp2
    exact bodyPost_ret (v := mv (y) (c) (.slice A xs.length cap)) (by first | (simp [results, Tryd.results72, go_sem, m0, m1, m2]; done) | (simp [results, Tryd.results72, go_sem]; done)) rfl ⟨⟨_, _, _, _, _, _, rfl, by omega, (((HO4.out.set (own_nl hl (.inr (by dsimp only; omega))) _).set (own_nl hl (.inr (by dsimp only; omega))) _).set (own_nl hl (.inr (by dsimp only; omega))) _).set (own_nl hl (.inr (by dsimp only; omega))) _⟩, (((HK4.out.set (by dsimp only; omega) (by dsimp only; omega) _).set (by dsimp only; omega) (by dsimp only; omega) _).set (by dsimp only; omega) (by dsimp only; omega) _).set (by dsimp only; omega) (by dsimp only; omega) _⟩
  · have d0 : (x == 0) = false := by simpa using e0
    by_cases e1 : x = 1
    · have d1 : (x == 1) = true := by simpa using e1
      clear e0 e1
      by_cases hx : 0 < xs.length
      · obtain ⟨g, rfl, hg1, hg2⟩ := own_some HO2.out hx
        have hlg := hl g rfl
        have HT : Hid (Own w1 B (.slice (some ⟨g, 0, none⟩) xs.length cap) (tab xs.length fun i => xs.getD i 0)) := by rw [Hid, tab_self]; exact HO2.out
        have dp : decide ((0 : Int) < (xs.length : Int)) = true := decide_eq_true (by omega)
        obtain ⟨⟨c0, c1, c2⟩, _⟩ := b0.out
        obtain ⟨L, hL⟩ : ∃ L, xs.length = L := ⟨_, rfl⟩
        rw [hL] at HT hx dp c2 b0 hn hl ⊢
        clear HO2
        have i0 : (0 : Int) < (L : Int) := by omega
        go_wp2_with fail
        go_region_with (go_at_call 61; refine (l1Odd p _ (by exact HK2.out.1)).mono ?_; rintro e w5 ⟨⟨y, rfl, y0, y1⟩, hk5⟩; have KO := Own.kept1 (by exact HT.out) hk5 (by omega); have c5 := own_cell KO hx; have f5 := own_free KO 0; have b5 := Box3.kept (by exact b0.out) hk5 (by omega); obtain ⟨⟨n0, n1, n2⟩, _⟩ := b5; clear c0 c1 c2; have KO5 := hide KO; clear KO)
        all_goals
          have HK5 := hide (KB.set (KB.kept (w := w1.drew) HK2.out hB hk5) (a := ⟨g, 0, none⟩) (by dsimp only; omega) (by dsimp only; omega) (.int .i64 y))
          have u0 := hide (Box3.set (Box3.kept (w := w1.drew) b0.out hk5 (by omega)) (p := ⟨g, 0, none⟩) (by dsimp only; omega) (.int .i64 y))
          have u1 := hide (Box3.set (Box3.kept (w := w1.drew) b1.out hk5 (by omega)) (p := ⟨g, 0, none⟩) (by dsimp only; omega) (.int .i64 y))
          have HO5 := hide (own_put KO5.out 0 y).1
          clear n0 n1 n2 c5 f5 hk5 KO5 HK2 HT b0 b1
          obtain ⟨⟨m0, m1, m2⟩, _⟩ := Box3.stored u1.out (.int .i64 r) (.int .i64 c) (.slice (some ⟨g, 0, none⟩) L cap)
          obtain ⟨⟨c0, c1, c2⟩, f0, f1, f2⟩ := u0.out
          obtain ⟨⟨g0, g1, g2⟩, k0, k1, k2⟩ := u1.out
          go_wp2
          exact bodyPost_ret (v := mv (r) (c) (.slice (some ⟨g, 0, none⟩) L cap)) (by first | (simp [results, Tryd.results72, go_sem, m0, m1, m2]; done) | (simp [results, Tryd.results72, go_sem]; done)) rfl ⟨⟨_, _, _, _, _, _, rfl, by omega, ((HO5.out.set (own_nl hl (.inr (by dsimp only; omega))) _).set (own_nl hl (.inr (by dsimp only; omega))) _).set (own_nl hl (.inr (by dsimp only; omega))) _⟩, ((HK5.out.set (by dsimp only; omega) (by dsimp only; omega) _).set (by dsimp only; omega) (by dsimp only; omega) _).set (by dsimp only; omega) (by dsimp only; omega) _⟩
      · have dp : decide ((0 : Int) < (xs.length : Int)) = false := decide_eq_false (by omega)
        obtain ⟨⟨m0, m1, m2⟩, _⟩ := Box3.stored b1.out (.int .i64 r) (.int .i64 c) (.slice A xs.length cap)
        obtain ⟨⟨c0, c1, c2⟩, f0, f1, f2⟩ := b0.out
        obtain ⟨⟨g0, g1, g2⟩, k0, k1, k2⟩ := b1.out
        go_wp2
        exact bodyPost_ret (v := mv (r) (c) (.slice A xs.length cap)) (by first | (simp [results, Tryd.results72, go_sem, m0, m1, m2]; done) | (simp [results, Tryd.results72, go_sem]; done)) rfl ⟨⟨_, _, _, _, _, _, rfl, by omega, ((HO2.out.set (own_nl hl (.inr (by dsimp only; omega))) _).set (own_nl hl (.inr (by dsimp only; omega))) _).set (own_nl hl (.inr (by dsimp only; omega))) _⟩, ((HK2.out.set (by dsimp only; omega) (by dsimp only; omega) _).set (by dsimp only; omega) (by dsimp only; omega) _).set (by dsimp only; omega) (by dsimp only; omega) _⟩
    · have d1 : (x == 1) = false := by simpa using e1
      by_cases e2 : x = 2
      · have d2 : (x == 2) = true := by simpa using e2
        clear e0 e1 e2
        obtain ⟨⟨c0, c1, c2⟩, _⟩ := b0.out
        have hz2 := HK2.out.size
        have hb1 := b1.out.lt
        go_wp2_with (at_builtin; refine wpList_append_one rfl _ _ rfl (.slice A xs.length cap) B xs rfl (Own.alloc HO2.out _) w1.heap.size 1 rfl (by go_simp) (by omega) (by simp; omega) ?_; intro v4 w4 ho4 hg4 hbk; have HK4 := hide (KB.grownO (HK2.out.alloc hB _) hB hg4 (Own.alloc HO2.out _) hp); have u0 := hide (Box3.grown (b0.out.alloc _) hg4 (own_nl hl (.inr (by omega))).symm); have u1 := hide (Box3.grown (b1.out.alloc _) hg4 (own_nl hl (.inr (by omega))).symm); clear c0 c1 c2; obtain ⟨⟨c0, c1, c2⟩, f0, f1, f2⟩ := u0.out; obtain ⟨⟨g0, g1, g2⟩, k0, k1, k2⟩ := u1.out; have hn4 : (xs ++ [(1 : Int)]).length ≤ 1001 := (by simp; omega); obtain ⟨ys, hys⟩ : ∃ ys, xs ++ [(1 : Int)] = ys := ⟨_, rfl⟩; rw [hys] at ho4 hn4; have HO4 := hide ho4; obtain ⟨A4, c4, rfl, _⟩ := Own.sl ho4; obtain ⟨L4, hL4⟩ : ∃ L, ys.length = L := ⟨_, rfl⟩; rw [hL4] at HO4 hn4 hbk; rw [hL4]; clear ho4 hys hg4)
        have hne0 : (Value.slice A4 L4 c4).ownBlock ≠ some w.heap.size := by
          rcases hbk with e | e
          · rw [e]; exact own_nl hl (.inr (Nat.le_refl _))
          · rw [e]; simp; omega
        have hne1 : (Value.slice A4 L4 c4).ownBlock ≠ some (w.heap.size + 1) := by
          rcases hbk with e | e
          · rw [e]; exact own_nl hl (.inr (by omega))
          · rw [e]; simp; omega
        have m := hide (Box3.stored (u1.out.set (p := ⟨w.heap.size, 2, none⟩) (by dsimp only; omega) (.slice A4 L4 c4)) (.int .i64 r) (.int .i64 c) (.slice A4 L4 c4))
        obtain ⟨⟨m0, m1, m2⟩, _⟩ := m.out
        clear hbk
        go_wp2
        exact bodyPost_ret (v := mv (r) (c) (.slice A4 L4 c4)) (by first | (simp [results, Tryd.results72, go_sem, m0, m1, m2]; done) | (simp [results, Tryd.results72, go_sem]; done)) rfl ⟨⟨_, _, _, _, _, _, rfl, by omega, (((HO4.out.set hne0 _).set hne1 _).set hne1 _).set hne1 _⟩, (((HK4.out.set (by dsimp only; omega) (by dsimp only; omega) _).set (by dsimp only; omega) (by dsimp only; omega) _).set (by dsimp only; omega) (by dsimp only; omega) _).set (by dsimp only; omega) (by dsimp only; omega) _⟩
      · have d2 : (x == 2) = false := by simpa using e2
        obtain ⟨⟨m0, m1, m2⟩, _⟩ := Box3.stored b1.out (.int .i64 r) (.int .i64 c) (.slice A xs.length cap)
        obtain ⟨⟨c0, c1, c2⟩, f0, f1, f2⟩ := b0.out
        obtain ⟨⟨g0, g1, g2⟩, k0, k1, k2⟩ := b1.out
        go_wp2
        exact bodyPost_ret (v := mv (r) (c) (.slice A xs.length cap)) (by first | (simp [results, Tryd.results72, go_sem, m0, m1, m2]; done) | (simp [results, Tryd.results72, go_sem]; done)) rfl ⟨⟨_, _, _, _, _, _, rfl, by omega, ((HO2.out.set (own_nl hl (.inr (by dsimp only; omega))) _).set (own_nl hl (.inr (by dsimp only; omega))) _).set (own_nl hl (.inr (by dsimp only; omega))) _⟩, ((HK2.out.set (by dsimp only; omega) (by dsimp only; omega) _).set (by dsimp only; omega) (by dsimp only; omega) _).set (by dsimp only; omega) (by dsimp only; omega) _⟩
end Go.Proofs.YtkaiekhmcjojoaaDoor
namespace Go.Proofs.YtkaiekhmcjojoaaDoor
open Go.RowKit
set_option linter.unusedSimpArgs false
set_option linter.unusedVariables false
theorem Box3.kb {B : Nat} {w w' : World} {b p : Nat} {x y z : Value} (h : Box3 w b x y z) (hk : KB B w w' p) (hb : b < B) (hne : b ≠ p) : Box3 w' b x y z := h.of_block (hk.2.2.2.2.2 b hb hne)
set_option maxRecDepth 100000 in
set_option maxHeartbeats 8000000 in
theorem l3Any (p : Nat) (w : World) (hc : Cur w p) :
    Calls Tryd.prog 46 #[.pointer (some ⟨p, 0, none⟩)] w (DrawM w.heap.size w p) := by
  have hp := hc.lt
  have HK := hide ((KB.start hc).alloc (Nat.le_refl _) (.cells #[.int .i64 0, .int .i64 0, .slice none 0 0] 30))
  have B0 := hide (Box3.new (x := .int .i64 0) (y := .int .i64 0) (z := .slice none 0 0) w w.heap.size 30 rfl)
  clear hc
  go_enter Tryd.func46, Tryd.ntmps46
  go_wp2_with fail
  refine (l1Below p 5 _ HK.out.1 (by omega) (by omega)).mono ?_; rintro e w1 ⟨⟨x, rfl, x0, x1⟩, hk⟩
  obtain ⟨X, rfl⟩ := Int.eq_ofNat_of_zero_le x0
  have HK1 := hide (HK.out.kept (Nat.le_refl _) hk)
  have B1 := hide (Box3.kept B0.out hk (by omega))
  clear HK B0 hk x0
  go_wp2_with fail
  refine (l1Below p 5 _ HK1.out.1 (by omega) (by omega)).mono ?_; rintro e w2 ⟨⟨y, rfl, y0, y1⟩, hk⟩
  obtain ⟨Y, rfl⟩ := Int.eq_ofNat_of_zero_le y0
  have HK2 := hide (HK1.out.kept (Nat.le_refl _) hk)
  have B2 := hide (Box3.kept B1.out hk (by omega))
  clear HK1 B1 hk y0
  have HK3 := hide (HK2.out.alloc (Nat.le_refl _) (.cells #[.int .i64 1, .int .i64 3, .int .i64 9] 3))
  have B3 := hide (B2.out.alloc (.cells #[.int .i64 1, .int .i64 3, .int .i64 9] 3))
  have z2 := B2.out.lt
  go_wp2_with fail
  refine (l1PickInt p w2.heap.size 3 3 _ HK3.out.1 (by omega) (by simp) (by omega) (by omega) ?_).mono ?_
  · intro k hk
    have hk' : k = 0 ∨ k = 1 ∨ k = 2 := by omega
    clear hk
    rcases hk' with rfl | rfl | rfl
    · exact ⟨1, by go_simp, by omega, by omega⟩
    · exact ⟨3, by go_simp, by omega, by omega⟩
    · exact ⟨9, by go_simp, by omega, by omega⟩
  rintro e w4 ⟨⟨most, rfl, _, _⟩, hk⟩
  have HK4 := hide (HK3.out.kept (Nat.le_refl _) hk)
  have B4 := hide (Box3.kept B3.out hk (by omega))
  clear HK2 HK3 B2 B3 hk
  obtain ⟨N, hN⟩ : ∃ N, X * Y = N := ⟨_, rfl⟩
  have hN16 : N ≤ 16 := by rw [← hN]; exact Nat.mul_le_mul (show X ≤ 4 by omega) (show Y ≤ 4 by omega)
  have z4 := B4.out.lt
  go_wp2_with fail
  refine (l3Draw p X Y most N _ HK4.out.1 (by rw [Hid, ← hN]; push_cast; rfl) (by omega)).mono ?_; rintro e w5 ⟨⟨g, f, rfl, ho⟩, hk⟩
  have hgl := Own.lt ho g rfl
  have HK5 := hide ((HK4.out.trans (by omega) hk).alloc (Nat.le_refl _) (.cells #[.int .i64 X, .int .i64 Y, .slice (some ⟨g, 0, none⟩) N N] 30))
  have B5 := hide ((B4.out.kb hk (by omega) (by omega)).alloc (.cells #[.int .i64 X, .int .i64 Y, .slice (some ⟨g, 0, none⟩) N N] 30))
  have C5 := hide (Box3.new (x := .int .i64 X) (y := .int .i64 Y) (z := .slice (some ⟨g, 0, none⟩) N N) w5 w5.heap.size 30 rfl)
  have HO5 := hide ((ho.mono (lo' := w.heap.size + 1) (by omega)).alloc (.cells #[.int .i64 X, .int .i64 Y, .slice (some ⟨g, 0, none⟩) N N] 30))
  clear HK4 B4 hk ho
  obtain ⟨⟨c0, c1, c2⟩, _⟩ := C5.out
  by_cases hX : 1 < X
  · have dX : decide ((1 : Int) < (X : Int)) = true := decide_eq_true (by omega)
    go_wp2_with fail
    refine (l1Once p 4 _ HK5.out.1 (by omega) (by omega)).mono ?_; rintro e w6 ⟨⟨b, rfl⟩, hk⟩
    have HK6 := hide (HK5.out.kept (Nat.le_refl _) hk)
    have B6 := hide (Box3.kept B5.out hk (by omega))
    have C6 := hide (Box3.kept C5.out hk (by omega))
    have HO6 := hide (Own.kept1 HO5.out hk (by omega))
    clear HK5 B5 C5 hk c0 c1 c2
    obtain ⟨⟨c0, c1, c2⟩, _⟩ := C6.out
    cases b
    · go_wp2_with fail
      refine (l3Spoil p (w.heap.size + 1) X Y (some ⟨g, 0, none⟩) N N _ _ HK6.out.1 HO6.out (by omega) (by have := HK6.out.2.1; have := B6.out.lt; omega) (by omega)).mono ?_; rintro e w8 ⟨⟨r', c', A', n', cap', ys, rfl, hn', ho⟩, hk⟩
      have v0 := hide (B6.out.kb hk (by omega) (by omega))
      have HKz := hide (HK6.out.trans (by omega) hk)
      have hlz := Own.lt ho
      have HOz := hide ho
      clear ho hk
      obtain ⟨⟨m0, m1, m2⟩, _⟩ := Box3.stored v0.out (.int .i64 r') (.int .i64 c') (.slice A' n' cap')
      obtain ⟨⟨c0, c1, c2⟩, f0, f1, f2⟩ := v0.out
      go_wp2
      exact bodyPost_ret (v := mv (r') (c') (.slice A' n' cap')) (by first | (simp [results, Tryd.results46, go_sem, m0, m1, m2]; done) | (simp [results, Tryd.results46, go_sem]; done)) rfl ⟨⟨_, _, _, _, _, _, rfl, hn', (((HOz.out.set (own_nl hlz (.inl (by dsimp only; omega))) _).set (own_nl hlz (.inl (by dsimp only; omega))) _).set (own_nl hlz (.inl (by dsimp only; omega))) _).mono (by omega)⟩, ((HKz.out.set (by dsimp only; omega) (by dsimp only; omega) _).set (by dsimp only; omega) (by dsimp only; omega) _).set (by dsimp only; omega) (by dsimp only; omega) _⟩
    · obtain ⟨Z, rfl⟩ : ∃ Z, X = Z + 1 := ⟨X - 1, by omega⟩
      have hD : Z * Y + Y = N := by rw [← hN, Nat.add_mul, Nat.one_mul]
      obtain ⟨D, eD⟩ : ∃ D, Z * Y = D := ⟨_, rfl⟩
      have v1 : IntKind.i64.wrap (Z : Int) = (Z : Int) := IntWalk.i64_in _ (by omega)
      have v2 : IntKind.i64.wrap ((Z : Int) * (Y : Int)) = (D : Int) := by rw [← eD, ← Int.natCast_mul]; exact IntWalk.i64_in _ (by rw [eD]; omega)
      rw [eD] at hD
      go_wp2_with fail
      go_loopw [4] (fun i wr => ∃ (k : Nat) (f : Nat → Int), k ≤ Y ∧ i = .int .i64 k ∧ Own wr (w.heap.size + 1) (.slice (some ⟨g, 0, none⟩) N N) (tab N f) ∧
          Box3 wr w.heap.size (.int .i64 0) (.int .i64 0) (.slice none 0 0) ∧ Box3 wr w5.heap.size (.int .i64 (Z + 1 : Nat)) (.int .i64 (Y : Nat)) (.slice (some ⟨g, 0, none⟩) N N) ∧ KB w.heap.size w wr p) (fun i _ => Y - (intOf i).toNat)
      case atStart => exact ⟨0, _, Nat.zero_le _, rfl, HO6.out, B6.out, C6.out, HK6.out⟩
      case round =>

        clear HO6 HO5 B6 C6 HK6 c0 c1 c2
        clear f
        obtain ⟨k, f, hk, rfl, ho, b0, b1, hK⟩ := hrel
        have HO := hide ho
        have B7 := hide b0
        have C7 := hide b1
        have HK7 := hide hK
        clear ho b0 hK
        obtain ⟨⟨c0, c1, c2⟩, _⟩ := b1
        by_cases hlt : k < Y
        · obtain ⟨q, hq⟩ : ∃ q, D + k = q := ⟨_, rfl⟩
          have v3 : IntKind.i64.wrap ((D : Int) + (k : Int)) = (q : Int) := by rw [IntWalk.i64_in _ (by omega)]; omega
          have hce := own_cell HO.out (k := q) (by omega)
          have hck := own_cell HO.out (k := k) (by omega)
          have hfd := own_free HO.out k
          obtain ⟨x, hx⟩ : ∃ x, f q = x := ⟨_, rfl⟩
          rw [hx] at hce
          obtain ⟨y, v4⟩ : ∃ y, IntKind.i64.wrap (2 * x) = y := ⟨_, rfl⟩
          have HSO := hide (own_put HO.out k y)
          have z1 : (0 : Int) ≤ (k : Int) := by omega
          have z2' : (k : Int) < (N : Int) := by omega
          have z3 : (0 : Int) ≤ (q : Int) := by omega
          have z4' : (q : Int) < (N : Int) := by omega
          clear hx
          go_wp2
          go_still_tail 17, (by kernel_rfl)
          go_wp2
          go_roundw
          case rel => exact ⟨k + 1, _, by omega, by go_num, HSO.out.1, Box3.drew (B7.out.grown HSO.out.2 (by simp; omega)), Box3.drew (C7.out.grown HSO.out.2 (by simp; omega)), KB.drewN (HK7.out.grown (Nat.le_refl _) HSO.out.2 (by omega) (by omega)) 1⟩
          case measure => simp [intOf]; omega
        · go_wp2_with fail
          refine (l3Spoil p (w.heap.size + 1) (Z + 1 : Nat) (Y : Nat) (some ⟨g, 0, none⟩) N N _ _ HK7.out.1 HO.out (by omega) (by have := HK7.out.2.1; have := B7.out.lt; omega) (by omega)).mono ?_; rintro e w8 ⟨⟨r', c', A', n', cap', ys, rfl, hn', ho⟩, hk⟩
          have v0 := hide (B7.out.kb hk (by omega) (by omega))
          have HKz := hide (HK7.out.trans (by omega) hk)
          have hlz := Own.lt ho
          have HOz := hide ho
          clear ho hk
          obtain ⟨⟨m0, m1, m2⟩, _⟩ := Box3.stored v0.out (.int .i64 r') (.int .i64 c') (.slice A' n' cap')
          obtain ⟨⟨c0, c1, c2⟩, f0, f1, f2⟩ := v0.out
          go_wp2
          exact bodyPost_ret (v := mv (r') (c') (.slice A' n' cap')) (by first | (simp [results, Tryd.results46, go_sem, m0, m1, m2]; done) | (simp [results, Tryd.results46, go_sem]; done)) rfl ⟨⟨_, _, _, _, _, _, rfl, hn', (((HOz.out.set (own_nl hlz (.inl (by dsimp only; omega))) _).set (own_nl hlz (.inl (by dsimp only; omega))) _).set (own_nl hlz (.inl (by dsimp only; omega))) _).mono (by omega)⟩, ((HKz.out.set (by dsimp only; omega) (by dsimp only; omega) _).set (by dsimp only; omega) (by dsimp only; omega) _).set (by dsimp only; omega) (by dsimp only; omega) _⟩
  · have dX : decide ((1 : Int) < (X : Int)) = false := decide_eq_false (by omega)
    go_wp2_with fail
    refine (l3Spoil p (w.heap.size + 1) X Y (some ⟨g, 0, none⟩) N N _ _ HK5.out.1 HO5.out (by omega) (by have := HK5.out.2.1; have := B5.out.lt; omega) (by omega)).mono ?_; rintro e w8 ⟨⟨r', c', A', n', cap', ys, rfl, hn', ho⟩, hk⟩
    have v0 := hide (B5.out.kb hk (by omega) (by omega))
    have HKz := hide (HK5.out.trans (by omega) hk)
    have hlz := Own.lt ho
    have HOz := hide ho
    clear ho hk
    obtain ⟨⟨m0, m1, m2⟩, _⟩ := Box3.stored v0.out (.int .i64 r') (.int .i64 c') (.slice A' n' cap')
    obtain ⟨⟨c0, c1, c2⟩, f0, f1, f2⟩ := v0.out
    go_wp2
    exact bodyPost_ret (v := mv (r') (c') (.slice A' n' cap')) (by first | (simp [results, Tryd.results46, go_sem, m0, m1, m2]; done) | (simp [results, Tryd.results46, go_sem]; done)) rfl ⟨⟨_, _, _, _, _, _, rfl, hn', (((HOz.out.set (own_nl hlz (.inl (by dsimp only; omega))) _).set (own_nl hlz (.inl (by dsimp only; omega))) _).set (own_nl hlz (.inl (by dsimp only; omega))) _).mono (by omega)⟩, ((HKz.out.set (by dsimp only; omega) (by dsimp only; omega) _).set (by dsimp only; omega) (by dsimp only; omega) _).set (by dsimp only; omega) (by dsimp only; omega) _⟩
end Go.Proofs.YtkaiekhmcjojoaaDoor
namespace Go.Proofs.YtkaiekhmcjojoaaDoor
open Go.RowKit
set_option linter.unusedSimpArgs false
set_option linter.unusedVariables false
/-- A text that a draw gives. -/
def DrawS (m : Nat) (w : World) (p : Nat) (e : Ending) (w' : World) : Prop := (∃ t : List UInt8, e = .returned (sv t) ∧ t.length ≤ m) ∧ Kept w w' p
def OneS (m : Nat) (w : World) (e : Ending) (w' : World) : Prop := (∃ t : List UInt8, e = .returned (sv t) ∧ t.length ≤ m) ∧ Below w.heap.size w w'
def OneM (w : World) (e : Ending) (w' : World) : Prop := (∃ (r c : Int) (A : Option Addr) (n cap : Nat) (xs : List Int), e = .returned (mv r c (.slice A n cap)) ∧ n ≤ 1001 ∧ Own w' w.heap.size (.slice A n cap) xs) ∧ Below w.heap.size w w'
theorem KB.toBelow {W w1 w2 : World} {p : Nat} (hb : Below W.heap.size W w1) (hp : W.heap.size ≤ p) (h : KB w1.heap.size w1 w2 p) : Below W.heap.size W w2 := by
  obtain ⟨_, h1, h2, h3, h4, h5⟩ := h
  exact ⟨h2.trans hb.os, h3.trans hb.tape, h4.trans hb.output, Nat.le_trans hb.size h1, fun k hk => (h5 k (Nat.lt_of_lt_of_le hk hb.size) (by omega)).trans (hb.block k hk)⟩
theorem bs_list (s : ByteArray) : ∃ l : List UInt8, s = ⟨l.toArray⟩ ∧ l.length = s.size := ⟨s.data.toList, by cases s; simp, by simp⟩
set_option maxHeartbeats 1000000 in
theorem l1Pick (p g n cap : Nat) (w : World) (hc : Cur w p) (hgl : g < w.heap.size) (hg : g ≠ p) (hn : 1 ≤ n) (hn' : n ≤ 1000) (hl : ∀ k, k < n → ∃ t : List UInt8, w.cell? ⟨g, k, none⟩ = some (sv t) ∧ t.length ≤ 10) :
    Calls Tryd.prog 55 #[.pointer (some ⟨p, 0, none⟩), .slice (some ⟨g, 0, none⟩) n cap] w (DrawS 10 w p) := by
  have HK := hide hc
  have HL := hide hl
  clear hc hl
  go_enter Tryd.func55, Tryd.ntmps55
  go_wp2_with fail
  refine (l1Below p n _ HK.out (by omega) (by omega)).mono ?_; rintro e w1 ⟨⟨x, rfl, h0, h1⟩, hk⟩
  obtain ⟨k, rfl⟩ : ∃ k : Nat, x = k := ⟨x.toNat, by omega⟩
  obtain ⟨t, ht, htl⟩ := HL.out k (by omega)
  have ht1 : w1.cell? ⟨g, k, none⟩ = some (sv t) := hk.2.cell ht (by simp; exact hg)
  have hk1 : (k : Int) < (n : Int) := by omega
  have HKK := hide hk
  clear ht hk
  go_wp2
  go_ret
  exact ⟨⟨t, rfl, htl⟩, HKK.out⟩
set_option maxHeartbeats 1000000 in
theorem drawFmtMat (A : Option Addr) (n cap : Nat) (w : World) (hs : SlB w w.heap.size A n) (hn : n ≤ 1048576) :
    Calls Tryd.prog 17 #[.slice A n cap] w (OneM w) := by
  have hB0 : Below w.heap.size w (w.alloc (.cells #[.int .i64 0, .int .i64 0, .slice none 0 0] 30)) := (by repeat' (first | exact Below.refl _ _ | (refine Below.alloc ?_ ?_ _) | (refine Below.setCell ?_ ?_ _) | (refine Below.drew ?_) | (refine below_drewN ?_ _) | (refine Below.trans ?_ (Below.mono (by assumption) ?_)) | omega | (simp only [World.size_alloc, World.size_setCell, World.size_drew, size_drewN]; omega)))
  have HS : Hid (SlB (w.alloc (.cells #[.int .i64 0, .int .i64 0, .slice none 0 0] 30)) (w.alloc (.cells #[.int .i64 0, .int .i64 0, .slice none 0 0] 30)).heap.size A n) := (hs.below hB0).mono hB0.size
  have HB0 := hide hB0
  have N0 := hide (Box3.new (x := .int .i64 0) (y := .int .i64 0) (z := .slice none 0 0) w w.heap.size 30 rfl)
  clear hs hB0
  go_enter Tryd.func17, Tryd.ntmps17
  go_wp2_with fail
  refine (l1New A n cap _ HS.out hn).mono ?_; rintro e w1 ⟨rfl, hc, hb⟩
  simp only [World.size_alloc] at hc
  have HC := hide hc
  have N1 := hide (N0.out.call hb)
  have HB : Hid (Below w.heap.size w w1) := HB0.out.trans (hb.mono HB0.out.size)
  have hlt1 := hc.lt
  clear hb hc
  go_wp2_with fail
  refine (l3Any _ _ HC.out).mono ?_; rintro e w2 ⟨⟨r, c, A2, n2, c2, xs, rfl, hn2, ho⟩, hk⟩
  have N2 := hide (N1.out.of_block (hk.2.2.2.2.2 w.heap.size (by omega) (by omega)))
  have HB2 := hide (KB.toBelow HB.out (by omega) hk)
  have HLT := Own.lt ho
  have HO := hide ho
  clear ho hk N1
  obtain ⟨⟨y0, y1, y2⟩, u0, u1, u2⟩ := N2.out
  obtain ⟨⟨m0, m1, m2⟩, _⟩ := N2.out.stored (.int .i64 r) (.int .i64 c) (.slice A2 n2 c2)
  go_wp2_with fail
  exact bodyPost_ret (v := mv (r) (c) (.slice A2 n2 c2)) (by first | (simp [results, Tryd.results17, go_sem, m0, m1, m2]; done) | (simp [results, Tryd.results17, go_sem]; done)) rfl ⟨⟨r, c, A2, n2, c2, xs, rfl, hn2, Own.mono (Own.set (Own.set (Own.set HO.out (fun e => by have := (HLT _ e).1; simp at this; omega) _) (fun e => by have := (HLT _ e).1; simp at this; omega) _) (fun e => by have := (HLT _ e).1; simp at this; omega) _) (by omega)⟩, ((HB2.out.setCell (Nat.le_refl _) _).setCell (Nat.le_refl _) _).setCell (Nat.le_refl _) _⟩
set_option maxHeartbeats 1000000 in
theorem drawFmtRat (A : Option Addr) (n cap : Nat) (w : World) (hs : SlB w w.heap.size A n) (hn : n ≤ 1048576) :
    Calls Tryd.prog 22 #[.slice A n cap] w fun e w' => (∃ a b : Int, e = .returned (rv a b) ∧ (-9223372036854775808 ≤ a ∧ a ≤ 9223372036854775807) ∧ (-9223372036854775808 ≤ b ∧ b ≤ 9223372036854775807)) ∧ Below w.heap.size w w' := by
  have hB0 : Below w.heap.size w (w.alloc (.cells #[.int .i64 0, .int .i64 0] 23)) := (by repeat' (first | exact Below.refl _ _ | (refine Below.alloc ?_ ?_ _) | (refine Below.setCell ?_ ?_ _) | (refine Below.drew ?_) | (refine below_drewN ?_ _) | (refine Below.trans ?_ (Below.mono (by assumption) ?_)) | omega | (simp only [World.size_alloc, World.size_setCell, World.size_drew, size_drewN]; omega)))
  have HS : Hid (SlB (w.alloc (.cells #[.int .i64 0, .int .i64 0] 23)) (w.alloc (.cells #[.int .i64 0, .int .i64 0] 23)).heap.size A n) := (hs.below hB0).mono hB0.size
  have HB0 := hide hB0
  clear hs hB0
  go_enter Tryd.func22, Tryd.ntmps22
  go_wp2_with fail
  refine (l1New A n cap _ HS.out hn).mono ?_; rintro e w1 ⟨rfl, hc, hb⟩
  simp only [World.size_alloc] at hc
  have HC := hide hc; clear hc
  have b0 := hide ((Box2.new (x := .int .i64 0) (y := .int .i64 0) w w.heap.size 23 rfl).call hb)
  have HB : Hid (Below w.heap.size w w1) := HB0.out.trans (hb.mono HB0.out.size)
  clear hb
  go_wp2_with fail
  refine (l2Any _ _ HC.out).mono ?_; rintro e w2 ⟨⟨a, b, rfl, ha, hb⟩, hk⟩
  have HK := hide hk
  have g0 := hide (b0.out.kept hk (by omega))
  clear hk b0
  obtain ⟨⟨y0, y1⟩, u0, u1⟩ := g0.out
  obtain ⟨⟨m0, m1⟩, _⟩ := g0.out.stored (.int .i64 a) (.int .i64 b)
  have HB3 := hide (HK.out.below HB.out (by omega) HB.out.size)
  go_wp2_with fail
  exact bodyPost_ret (v := rv a b) (by simp [results, Tryd.results22, go_sem, m0, m1]) rfl ⟨⟨a, b, rfl, ha, hb⟩, ((HB3.out.setCell (by dsimp only; omega) _).setCell (by dsimp only; omega) _)⟩
theorem fmtM_len (r c : Int) (xs : List Int) : (fmtM r c xs).length ≤ 7000 := by
  rcases Bool.eq_false_or_eq_true (isMat r c xs) with h | h
  · obtain ⟨h1, h2, h3, h4, h5, h6, h7⟩ := isMat_t h
    obtain ⟨R, rfl⟩ : ∃ R : Nat, r = R := ⟨r.toNat, by omega⟩
    obtain ⟨C, rfl⟩ : ∃ C : Nat, c = C := ⟨c.toNat, by omega⟩
    rw [fmtM_yes h]
    exact matT_len (by omega) (by omega) h7 h6
  · rw [fmtM_no h]; simp
theorem cat3 (a t b : List UInt8) : Ending.returned (Value.string ((⟨a.toArray⟩ : ByteArray) ++ (⟨t.toArray⟩ : ByteArray) ++ (⟨b.toArray⟩ : ByteArray))) = .returned (sv (a ++ t ++ b)) := by
  rw [bs_append, bs_append]
set_option maxRecDepth 100000 in
set_option maxHeartbeats 4000000 in
theorem drawPrsMat (A : Option Addr) (n cap : Nat) (w : World) (hs : SlB w w.heap.size A n) (hn : n ≤ 1048576) :
    Calls Tryd.prog 21 #[.slice A n cap] w (OneS 20000 w) := by
  have HS := hide hs
  clear hs
  go_enter Tryd.func21, Tryd.ntmps21
  go_wp2_with fail
  refine (l1New A n cap _ HS.out hn).mono ?_; rintro e w1 ⟨rfl, hc, hb⟩
  have HC := hide hc
  have HB := hide hb
  have hlt1 := hc.lt
  clear hb hc
  go_wp2_with fail
  refine (l3Any _ _ HC.out).mono ?_; rintro e w2 ⟨⟨r, c, A2, n2, c2, xs, rfl, hn2, ho⟩, hk⟩
  have HB2 := hide (KB.toBelow HB.out (Nat.le_refl _) hk)
  have HC2 := hide hk.1
  obtain ⟨hxn, hsl⟩ := Own.reads ho
  have CF := hide fun (w' : World) (h : SlI w' A2 xs) => specFormatMatrix r c A2 c2 xs w' h (by omega)
  rw [← hxn] at CF
  have HSL := hide hsl
  obtain ⟨l, hl⟩ : ∃ l, fmtM r c xs = l := ⟨_, rfl⟩
  have hll : l.length ≤ 7000 := by rw [← hl]; exact fmtM_len r c xs
  rw [hl] at CF
  clear ho hk hl hsl HC HB hxn hn2
  go_wp2_with fail
  refine (CF.out _ HSL.out).mono ?_; rintro e w3 ⟨rfl, hb⟩
  have HB3 := hide (kb_call HB2.out (Nat.le_refl _) hb)
  have HC3 := hide (HC2.out.call hb)
  clear hb HB2 HC2 CF HSL
  by_cases hl0 : l.length = 0
  · have d1 : ¬ ((0 : Int) < (l.length : Int)) := by omega
    go_wp2_with fail
    go_ret
    exact ⟨⟨l, rfl, by omega⟩, HB3.out⟩
  have d1 : (0 : Int) < (l.length : Int) := by omega
  go_wp2_with fail
  refine (l1Once _ 3 _ HC3.out (by omega) (by omega)).mono ?_; rintro e w4 ⟨⟨b, rfl⟩, hk⟩
  have HB4 := hide (hk.below HB3.out (Nat.le_refl _) HB3.out.size)
  have HC4 := hide hk.1
  clear hk HB3 HC3
  cases b
  · go_wp2_with fail
    go_ret
    exact ⟨⟨l, rfl, by omega⟩, HB4.out⟩
  go_wp2_with fail
  refine (l1Below _ l.length _ HC4.out (by omega) (by omega)).mono ?_; rintro e w5 ⟨⟨x, rfl, h0, h1⟩, hk⟩
  obtain ⟨k, rfl⟩ : ∃ k : Nat, x = k := ⟨x.toNat, by omega⟩
  have HB5 := hide (hk.below HB4.out (Nat.le_refl _) HB4.out.size)
  have HC5 := hide hk.1
  have hlt5 := hk.1.lt
  clear hk HB4 HC4
  obtain ⟨a, ha, hal⟩ := bs_list ((⟨l.toArray⟩ : ByteArray).extract 0 k)
  obtain ⟨b, hb, hbl⟩ := bs_list ((⟨l.toArray⟩ : ByteArray).extract (k + 1) l.length)
  have hal2 : a.length ≤ 7000 := by
    rw [hal, ByteArray.size_extract]
    have : (⟨l.toArray⟩ : ByteArray).size = l.length := rfl
    omega
  have hbl2 : b.length ≤ 7000 := by
    rw [hbl, ByteArray.size_extract]
    have : (⟨l.toArray⟩ : ByteArray).size = l.length := rfl
    omega
  have d2 : (0 : Int) ≤ (k : Int) := by omega
  have d3 : (k : Int) ≤ (l.length : Int) := by omega
  have d4 : (k : Int) + 1 ≤ (l.length : Int) := by omega
  have d5 : (0 : Int) ≤ (k : Int) + 1 := by omega
  have wk : IntKind.i64.wrap ((k : Int) + 1) = (k : Int) + 1 := IntWalk.i64_in _ (by omega)
  have CP := hide fun (w' : World) (g : Nat) (hc : Cur w' w.heap.size) (hgl : g < w'.heap.size) (hg : g ≠ w.heap.size) (hl : ∀ k, k < 6 → ∃ t : List UInt8, w'.cell? ⟨g, k, none⟩ = some (sv t) ∧ t.length ≤ 10) => l1Pick w.heap.size g 6 6 w' hc hgl hg (by omega) (by omega) hl
  have h6 : Hid (∀ (W : World) (k : Nat), k < 6 → ∃ t : List UInt8, ((W.alloc (.cells #[.string ⟨#[]⟩, .string ⟨#[32]⟩, .string ⟨#[59]⟩, .string ⟨#[48]⟩, .string ⟨#[45]⟩, .string ⟨#[120]⟩] 9)).drew).cell? ⟨W.heap.size, k, none⟩ = some (sv t) ∧ t.length ≤ 10) := fun W k hk => by
    rcases (by omega : k = 0 ∨ k = 1 ∨ k = 2 ∨ k = 3 ∨ k = 4 ∨ k = 5) with rfl | rfl | rfl | rfl | rfl | rfl
    · exact ⟨[], by go_simp, by decide⟩
    · exact ⟨[32], by go_simp, by decide⟩
    · exact ⟨[59], by go_simp, by decide⟩
    · exact ⟨[48], by go_simp, by decide⟩
    · exact ⟨[45], by go_simp, by decide⟩
    · exact ⟨[120], by go_simp, by decide⟩
  clear hal hbl h0 h1
  go_wp2
  go_region_held3 (fun w' => Kept w5 w' w.heap.size)
    (first
      | exact Kept.drewN (Kept.refl HC5.out) 1
      | (have hh := ‹Kept w5 _ w.heap.size›; exact Kept.trans hh hk9)
      | (have hh := ‹Kept w5 _ w.heap.size›; exact Kept.call hh ((Below.refl _ _).alloc (Nat.le_refl _) _)))
    (first
      | (go_at_call 55; have hh := ‹Kept w5 _ w.heap.size›; refine (CP.out _ _ hh.1 (by simp) (by omega) (h6.out _)).mono ?_; rintro e w6 ⟨⟨t, rfl, htl⟩, hk9⟩; have s1 : ¬ (9223372036854775807 < a.length + t.length) := (by omega); have s2 : ¬ (9223372036854775807 < a.length + t.length + b.length) := (by omega); have s3 : ¬ (9223372036854775807 < a.length + (t.length + b.length)) := (by omega); clear hh))
  have HH := hide ‹Kept w5 _ w.heap.size›
  go_wp2
  go_ret
  exact ⟨⟨a ++ t ++ b, cat3 a t b, by simp only [List.length_append]; omega⟩, HH.out.below HB5.out (Nat.le_refl _) HB5.out.size⟩
end Go.Proofs.YtkaiekhmcjojoaaDoor
namespace Go.Proofs.YtkaiekhmcjojoaaDoor
open Go.RowKit
set_option linter.unusedSimpArgs false
set_option linter.unusedVariables false

def sameB (r c : Int) (xs : List Int) (r' c' : Int) (ys : List Int) : Bool := decide (r = r' ∧ c = c' ∧ xs = ys)
theorem take_same {xs ys : List Int} {k : Nat} (h : xs.take k = ys.take k) (h1 : k < xs.length) (h2 : k < ys.length) (he : xs.getD k 0 = ys.getD k 0) : xs.take (k + 1) = ys.take (k + 1) := by
  rw [List.take_succ_eq_append_getElem h1, List.take_succ_eq_append_getElem h2, h]
  simp only [List.getD, List.getElem?_eq_getElem h1, List.getElem?_eq_getElem h2, Option.getD_some] at he
  rw [he]
theorem not_same {xs ys : List Int} {k : Nat} (he : xs.getD k 0 ≠ ys.getD k 0) : ¬ xs = ys := fun e => he (by rw [e])

set_option maxHeartbeats 1000000 in
theorem slicesEqual (A B : Option Addr) (p q : Nat) (xs ys : List Int) (w : World) (hA : SlI w A xs) (hB : SlI w B ys) (hn : xs.length ≤ 1048576) (hn' : ys.length ≤ 1048576) :
    Calls Tryd.prog 52 #[.slice A xs.length p, .slice B ys.length q] w fun e w' => e = .returned (.bool (decide (xs = ys))) ∧ ∃ n, w' = w.drewN n := by
  have HA := hide hA; clear hA
  have HB := hide hB; clear hB
  by_cases hl : xs.length = ys.length
  · have e1 : ((xs.length : Int) != (ys.length : Int)) = false := by simp [hl]
    have HL := hide hl; clear hl
    go_enter Tryd.func52, Tryd.ntmps52
    go_wp2
    go_loopw [13] (fun i wr => ∃ (k m : Nat), k ≤ xs.length ∧ i = .int .i64 k ∧ Hid (xs.take k = ys.take k) ∧ wr = w.drewN m) (fun i _ => xs.length - (intOf i).toNat)
    case atStart => exact ⟨0, 0, Nat.zero_le _, rfl, by simp [Hid], rfl⟩
    case round =>
      obtain ⟨k, m, hk, rfl, hp, rfl⟩ := hrel
      by_cases hlt : k < xs.length
      · have hlt' : k < ys.length := by have := HL.out; omega
        obtain ⟨g, off, rfl, hc⟩ := HA.out (by omega)
        obtain ⟨g', off', rfl, hc'⟩ := HB.out (by omega)
        have hcx := hc k hlt
        have hcx' := hc' k hlt'
        obtain ⟨x, hx⟩ : ∃ x, xs.getD k 0 = x := ⟨_, rfl⟩
        obtain ⟨y, hy⟩ : ∃ y, ys.getD k 0 = y := ⟨_, rfl⟩
        rw [hx] at hcx
        rw [hy] at hcx'
        have hk0 : (0 : Int) ≤ (k : Int) := by omega
        have hk1 : (k : Int) < (xs.length : Int) := by omega
        have hk2 : (k : Int) < (ys.length : Int) := by omega
        by_cases hxy : x = y
        · have HS : Hid (xs.take (k + 1) = ys.take (k + 1)) := take_same hp.out hlt hlt' (by rw [hx, hy, hxy])
          have e2 : (x != y) = false := by simpa using hxy
          clear hx hy hc hc' hxy
          go_wp2
          go_quiet (fail)
          go_wp2
          go_roundw
          case rel => exact ⟨k + 1, _, by omega, by go_num, HS, rfl⟩
          case measure => simp [intOf]; omega
        · have HS : Hid (decide (xs = ys) = false) := decide_eq_false (not_same (k := k) (by rw [hx, hy]; exact hxy))
          have e2 : (x != y) = true := by simpa using hxy
          clear hx hy hc hc' hxy
          go_wp2
          go_quiet (fail)
          go_wp2
          go_ret
          exact ⟨ret_bool HS.out.symm, by first | exact ⟨_, World.drewN_drewN _ _ _⟩ | exact ⟨_, rfl⟩⟩
      · have HS : Hid (decide (xs = ys) = true) := decide_eq_true (by have := hp.out; rwa [List.take_of_length_le (by omega), List.take_of_length_le (by have := HL.out; omega)] at this)
        go_wp2
        go_ret
        exact ⟨ret_bool HS.out.symm, m, rfl⟩
  · have e1 : ((xs.length : Int) != (ys.length : Int)) = true := by simp; omega
    have HS : Hid (decide (xs = ys) = false) := decide_eq_false (fun e => hl (by rw [e]))
    clear hl
    go_enter Tryd.func52, Tryd.ntmps52
    go_wp2
    go_ret
    exact ⟨ret_bool HS.out.symm, 0, rfl⟩

theorem same_no1 {r c r' c' : Int} {xs ys : List Int} (h : ¬ r = r') : sameB r c xs r' c' ys = false := decide_eq_false (fun hh => h hh.1)
theorem same_no2 {r c r' c' : Int} {xs ys : List Int} (h : ¬ c = c') : sameB r c xs r' c' ys = false := decide_eq_false (fun hh => h hh.2.1)
theorem same_in {r c : Int} {xs ys : List Int} : decide (xs = ys) = sameB r c xs r c ys := by simp [sameB]
theorem same_mk {r c : Int} {xs : List Int} : sameB r c xs r c xs = true := by simp [sameB]

set_option maxHeartbeats 1000000 in
theorem implSameMatrix (r c r' c' : Int) (A B : Option Addr) (p q : Nat) (xs ys : List Int) (w : World) (hA : SlI w A xs) (hB : SlI w B ys) (hn : xs.length ≤ 1048576) (hn' : ys.length ≤ 1048576) :
    Calls Tryd.prog 20 #[mv r c (.slice A xs.length p), mv r' c' (.slice B ys.length q)] w fun e w' => e = .returned (.bool (sameB r c xs r' c' ys)) ∧ Below w.heap.size w w' := by
  have HA := hide hA; clear hA
  have HB := hide hB; clear hB
  by_cases h1 : r = r'
  · subst h1
    by_cases h2 : c = c'
    · subst h2
      have HF := hide (same_in (r := r) (c := c) (xs := xs) (ys := ys))
      have e1 : (r == r) = true := by simp
      have e2 : (c == c) = true := by simp
      go_enter Tryd.func20, Tryd.ntmps20
      go_wp2_with (go_at_call 52; refine (slicesEqual A B p q xs ys _ (SlI.below HA.out (by repeat' (first | exact Below.refl _ _ | (refine Below.alloc ?_ ?_ _) | (refine Below.setCell ?_ ?_ _) | (refine Below.drew ?_) | (refine below_drewN ?_ _) | (refine Below.trans ?_ (Below.mono (by assumption) ?_)) | omega | (simp only [World.size_alloc, World.size_setCell, World.size_drew, size_drewN]; omega)))) (SlI.below HB.out (by repeat' (first | exact Below.refl _ _ | (refine Below.alloc ?_ ?_ _) | (refine Below.setCell ?_ ?_ _) | (refine Below.drew ?_) | (refine below_drewN ?_ _) | (refine Below.trans ?_ (Below.mono (by assumption) ?_)) | omega | (simp only [World.size_alloc, World.size_setCell, World.size_drew, size_drewN]; omega)))) hn hn').mono ?_; rintro e w1 ⟨rfl, m, rfl⟩)
      go_returns
      exact ⟨ret_bool HF.out, (by repeat' (first | exact Below.refl _ _ | (refine Below.alloc ?_ ?_ _) | (refine Below.setCell ?_ ?_ _) | (refine Below.drew ?_) | (refine below_drewN ?_ _) | (refine Below.trans ?_ (Below.mono (by assumption) ?_)) | omega | (simp only [World.size_alloc, World.size_setCell, World.size_drew, size_drewN]; omega)))⟩
    · have HF := hide (same_no2 (r := r) (r' := r) (xs := xs) (ys := ys) h2)
      have e1 : (r == r) = true := by simp
      have e2 : (c == c') = false := by simpa using h2
      clear h2
      go_enter Tryd.func20, Tryd.ntmps20
      go_wp2
      go_returns
      exact ⟨ret_bool HF.out.symm, (by repeat' (first | exact Below.refl _ _ | (refine Below.alloc ?_ ?_ _) | (refine Below.setCell ?_ ?_ _) | (refine Below.drew ?_) | (refine below_drewN ?_ _) | (refine Below.trans ?_ (Below.mono (by assumption) ?_)) | omega | (simp only [World.size_alloc, World.size_setCell, World.size_drew, size_drewN]; omega)))⟩
  · have HF := hide (same_no1 (c := c) (c' := c') (xs := xs) (ys := ys) h1)
    have e1 : (r == r') = false := by simpa using h1
    clear h1
    go_enter Tryd.func20, Tryd.ntmps20
    go_wp2
    go_returns
    exact ⟨ret_bool HF.out.symm, (by repeat' (first | exact Below.refl _ _ | (refine Below.alloc ?_ ?_ _) | (refine Below.setCell ?_ ?_ _) | (refine Below.drew ?_) | (refine below_drewN ?_ _) | (refine Below.trans ?_ (Below.mono (by assumption) ?_)) | omega | (simp only [World.size_alloc, World.size_setCell, World.size_drew, size_drewN]; omega)))⟩

end Go.Proofs.YtkaiekhmcjojoaaDoor
namespace Go.Proofs.YtkaiekhmcjojoaaDoor
open Go.RowKit
set_option linter.unusedSimpArgs false
set_option linter.unusedVariables false
theorem lawBig_no (A : Option Addr) (n cap : Nat) (w : World) (hn : n ≤ 1048576) :
    Calls Tryd.prog 16 #[.slice A n cap] w fun e w' => e = .returned (.bool false) ∧ w = w' := by
  have d1 : decide ((1048576 : Int) < (n : Int)) = false := decide_eq_false (by omega)
  go_enter Tryd.func16, Tryd.ntmps16
  go_wp2
  go_returns
  exact ⟨rfl, rfl⟩
theorem lawBig_yes (A : Option Addr) (n cap : Nat) (w : World) (hn : 1048576 < n) (hm : n ≤ 9223372036854775807) :
    Calls Tryd.prog 16 #[.slice A n cap] w fun e w' => e = .returned (.bool true) ∧ w = w' := by
  have d1 : decide ((1048576 : Int) < (n : Int)) = true := decide_eq_true (by omega)
  go_enter Tryd.func16, Tryd.ntmps16
  go_wp2
  go_returns
  exact ⟨rfl, rfl⟩
theorem lawAbs (n : Int) (w : World) (h : -9223372036854775808 < n) (h' : n ≤ 9223372036854775807) :
    Calls Tryd.prog 32 #[.int .i64 n] w fun e w' => e = .returned (.int .i64 (n.natAbs : Int)) ∧ w = w' := by
  go_enter Tryd.func32, Tryd.ntmps32
  go_wp2
  all_goals (go_ret; exact ⟨ret_int (by omega), rfl⟩)
theorem lawAbs_at (n x : Int) (hx : Hid ((n.natAbs : Int) = x)) (w : World) (h : -9223372036854775808 < n) (h' : n ≤ 9223372036854775807) :
    Calls Tryd.prog 32 #[.int .i64 n] w fun e w' => e = .returned (.int .i64 x) ∧ w = w' :=
  (lawAbs n w h h').mono fun _ _ ⟨he, hw⟩ => ⟨by rw [he, hx.out], hw⟩
end Go.Proofs.YtkaiekhmcjojoaaDoor
namespace Go.Proofs.YtkaiekhmcjojoaaDoor
open Go.RowKit
set_option linter.unusedSimpArgs false
set_option linter.unusedVariables false
theorem fmtM_ne {r c : Int} {xs : List Int} (h : isMat r c xs = true) : fmtM r c xs ≠ [] := fun e => by
  obtain ⟨R, C, rfl, rfl, _, _, _, _, _, hf⟩ := mat_nat h
  rw [hf, matT] at e
  simp at e
theorem pmI_nil : pmI [] = pm0 := pmI_no fun _ _ _ h => fmtM_ne h
/-- What is read writes the text again. -/
theorem pmI_back {l : List UInt8} (h : (pmI l).2.2.2 = true) : fmtM (pmI l).1 (pmI l).2.1 (pmI l).2.2.1 = l := by
  by_cases hg : ∃ r c xs, isMat r c xs = true ∧ fmtM r c xs = l
  · obtain ⟨r, c, xs, hm, rfl⟩ := hg
    rw [pmI_yes hm]
  · rw [pmI_no fun r c xs h1 h2 => hg ⟨r, c, xs, h1, h2⟩] at h
    cases h
theorem pmI_small (l : List UInt8) : (pmI l).2.2.1.length ≤ 576 := by rw [pmI_pmS]; exact pmS_len l
theorem prI_none : prI [110, 111, 110, 101] = (0, 0, false) := prI_no fun n d h e => by
  have hb : (110 : UInt8) ∈ Lib.itoa n := by
    rcases ratT_cases h with ⟨_, e2⟩ | ⟨_, e2⟩
    · rw [← e2, e]; simp
    · cases hi : Lib.itoa n with
      | nil => exact absurd hi (itoa_ne n)
      | cons x r =>
        rw [e2, hi] at e
        simp only [List.cons_append, List.cons.injEq] at e
        rw [e.1]; simp
  exact itoa_no (by decide) (by decide) hb
theorem ratT_none {n d : Int} (h : isRatio n d = false) : ratT n d = [110, 111, 110, 101] := by rw [ratT, h]; rfl
theorem sameB_self {r c : Int} {xs : List Int} (h : isMat r c xs = true) : sameB r c xs r c xs = true := by
  simp [sameB]
set_option maxRecDepth 100000 in
set_option maxHeartbeats 8000000 in
theorem walkFnTexts (A : Option Addr) (l cap : Nat) (xs0 : List Int) (w : World) (hs : SlBArg w A l cap xs0) (hE : Env w) :
    Calls Tryd.prog 5 #[.slice A l cap] w fun e w' => e = .returned (.bool true) ∧ Below w.heap.size w w' := by
  obtain ⟨hx, hm, hs⟩ := hs
  clear hx
  unfold maxLen at hm
  have HE := hide hE
  have HS := hide hs
  clear hE hs
  by_cases hn : l ≤ 1048576
  · go_enter Tryd.func5, Tryd.ntmps5
    go_wp2_with fail
    refine (lawBig_no A l cap _ hn).mono ?_; rintro e w0 ⟨rfl, rfl⟩
    go_wp2_with fail
    refine (drawFmtMat A l cap _ HS.out hn).mono ?_; rintro e w1 ⟨⟨r, c, A1, n1, c1, xs, rfl, hn1, ho⟩, hb⟩
    obtain ⟨hxn, _⟩ := Own.reads ho
    have CF := hide fun (w' : World) (h : Own w' w.heap.size (.slice A1 xs.length c1) xs) (hT : Tab10 w') => implFormatMatrix r c A1 c1 xs w' (Own.sl2 h) (by omega) hT
    have CI := hide fun (w' : World) (h : Own w' w.heap.size (.slice A1 xs.length c1) xs) => specIsMatrix r c A1 c1 xs w' (Own.reads h).2 (by omega)
    have CSM := hide fun (w' : World) (A2 : Option Addr) (c2 : Nat) (h : Own w' w.heap.size (.slice A1 xs.length c1) xs) (lo : Nat) (h2 : Own w' lo (.slice A2 xs.length c2) xs) => implSameMatrix r c r c A2 A1 c2 c1 xs xs w' (Own.reads h2).2 (Own.reads h).2 (by omega) (by omega)
    rw [← hxn] at CF CI CSM
    obtain ⟨T, hT⟩ : ∃ T, fmtM r c xs = T := ⟨_, rfl⟩
    rw [hT] at CF
    have hTl : T.length ≤ 7000 := by rw [← hT]; exact fmtM_len r c xs
    have cp := fun (w' : World) (hE : Env w') => implParseMatrix T (by omega) w' hE
    have O1 := hide (ho.alloc (.cells #[.int .i64 r, .int .i64 c, .slice A1 n1 c1] 30))
    have b1 := hide (Box3.new (x := .int .i64 r) (y := .int .i64 c) (z := .slice A1 n1 c1) w1 w1.heap.size 30 rfl)
    have HB1 := hide (hb.alloc hb.size (.cells #[.int .i64 r, .int .i64 c, .slice A1 n1 c1] 30))
    have HXN := hide hxn
    clear ho hb hxn hn1
    obtain ⟨⟨i0, i1, i2⟩, _⟩ := b1.out
    go_wp2_with fail
    refine (CF.out _ O1.out (HE.out.1.below HB1.out)).mono ?_; rintro e w2 ⟨rfl, hb⟩
    have O2 := hide (O1.out.below hb)
    have b2 := hide (b1.out.call hb)
    have HB2 := hide (kb_call HB1.out (Nat.le_refl _) hb)
    clear hb O1 b1 HB1 i0 i1 i2 CF
    rcases Bool.eq_false_or_eq_true (isMat r c xs) with hbm | hbm
    · have CPX : Hid (∀ w', Env w' → Calls Tryd.prog 12 #[sv T] w' fun e w'' => ∃ s, e = .returned (.tuple #[mv r c s, .bool true]) ∧ Own w'' w'.heap.size s xs ∧ Below w'.heap.size w' w'') := by
        rw [← hT, pmI_yes hbm] at cp
        rw [← hT]
        exact cp
      rw [hbm] at CI
      have hsb : sameB r c xs r c xs = true := same_mk
      rw [hsb] at CSM
      clear cp hT hbm hsb hTl
      go_wp2_with fail
      refine (CPX.out _ (HE.out.below HB2.out)).mono ?_; rintro e w3 ⟨s, rfl, ho, hb⟩
      obtain ⟨A3, z3, rfl, _⟩ := Own.sl ho
      rw [← HXN.out] at ho ⊢
      have O3 := hide ((O2.out.below hb).alloc (.cells #[.int .i64 r, .int .i64 c, .slice A3 n1 z3] 30))
      have X3 := hide (ho.alloc (.cells #[.int .i64 r, .int .i64 c, .slice A3 n1 z3] 30))
      have b3 := hide ((b2.out.call hb).alloc (.cells #[.int .i64 r, .int .i64 c, .slice A3 n1 z3] 30))
      have x3 := hide (Box3.new (x := .int .i64 r) (y := .int .i64 c) (z := .slice A3 n1 z3) w3 w3.heap.size 30 rfl)
      have HB3 := hide ((kb_call HB2.out (Nat.le_refl _) hb).alloc (by have := HB2.out.size; have := hb.size; omega) (.cells #[.int .i64 r, .int .i64 c, .slice A3 n1 z3] 30))
      clear ho hb O2 b2 HB2 CPX
      obtain ⟨⟨i0, i1, i2⟩, _⟩ := b3.out
      go_wp2_with fail
      refine (CI.out _ O3.out).mono ?_; rintro e w4 ⟨rfl, hb⟩
      have O4 := hide (O3.out.below hb)
      have X4 := hide (X3.out.below hb)
      have b4 := hide (b3.out.call hb)
      have x4 := hide (x3.out.call hb)
      have HB4 := hide (kb_call HB3.out (Nat.le_refl _) hb)
      clear hb O3 X3 b3 x3 HB3 CI i0 i1 i2
      obtain ⟨⟨i0, i1, i2⟩, _⟩ := b4.out
      obtain ⟨⟨j0, j1, j2⟩, _⟩ := x4.out
      go_wp2_with fail
      refine (CSM.out _ _ _ O4.out _ X4.out).mono ?_; rintro e w4b ⟨rfl, hb⟩
      have HB4b := hide (kb_call HB4.out (Nat.le_refl _) hb)
      clear hb O4 X4 b4 x4 HB4 CSM HXN i0 i1 i2 j0 j1 j2
      go_wp2_with fail
      refine (drawPrsMat A l cap _ ((HS.out.below HB4b.out).mono HB4b.out.size) hn).mono ?_; rintro e w5 ⟨⟨t, rfl, htl⟩, hb⟩
      have HB5 := hide (kb_call HB4b.out (Nat.le_refl _) hb)
      clear hb
      have cpt := fun (w' : World) (hE : Env w') => implParseMatrix t (by omega) w' hE
      have hsm := pmI_small t
      have hbk := pmI_back (l := t)
      obtain ⟨⟨r2, c2, ys, k2⟩, hp2⟩ : ∃ p, pmI t = p := ⟨_, rfl⟩
      rw [hp2] at cpt hsm hbk
      simp only at hsm hbk
      have CPT : Hid (∀ w', Env w' → Calls Tryd.prog 12 #[sv t] w' fun e w'' => ∃ s, e = .returned (.tuple #[mv r2 c2 s, .bool k2]) ∧ Own w'' w'.heap.size s ys ∧ Below w'.heap.size w' w'') := cpt
      clear cpt hp2 htl
      have HBK := hide hbk
      clear hbk
      go_wp2_with fail
      refine (CPT.out _ (HE.out.below HB5.out)).mono ?_; rintro e w6 ⟨s2, rfl, ho, hb⟩
      obtain ⟨A6, z6, rfl, _⟩ := Own.sl ho
      have O6 := hide (ho.alloc (.cells #[.int .i64 r2, .int .i64 c2, .slice A6 ys.length z6] 30))
      have Y6 := hide (Box3.new (x := .int .i64 r2) (y := .int .i64 c2) (z := .slice A6 ys.length z6) w6 w6.heap.size 30 rfl)
      have HB6 := hide ((kb_call HB5.out (Nat.le_refl _) hb).alloc (by have := HB5.out.size; have := hb.size; omega) (.cells #[.int .i64 r2, .int .i64 c2, .slice A6 ys.length z6] 30))
      clear ho hb HB5
      cases k2
      · clear HBK
        go_wp2_with fail
        refine (drawFmtRat A l cap _ ((HS.out.below HB6.out).mono HB6.out.size) hn).mono ?_; rintro e w9 ⟨⟨a, b, rfl, ⟨a0, a1⟩, b0, b1⟩, hb⟩
        have G9 := hide (Box2.new (x := .int .i64 a) (y := .int .i64 b) w9 w9.heap.size 23 rfl)
        have HB9 := hide ((kb_call HB6.out (Nat.le_refl _) hb).alloc (by have := HB6.out.size; have := hb.size; omega) (.cells #[.int .i64 a, .int .i64 b] 23))
        clear hb
        rcases Bool.eq_false_or_eq_true (isRatio a b) with hrr | hrr
        · skip
          have L1 := ratT_len a0 a1 b0 b1
          have CFR := hide fun (w : World) hT => implFormatRatio a b a0 a1 b0 b1 w hT
          have CIR := hide fun (w : World) => specIsRatio a b w
          rw [hrr] at CIR
          have cpr := fun (w : World) (hE : Env w) => implParseRatio (ratT a b) (by omega) w hE
          rw [prI_yes hrr] at cpr
          have CPR : Hid (∀ w, Env w → Calls Tryd.prog 9 #[sv (ratT a b)] w fun e w' => e = .returned (.tuple #[rv a b, .bool true]) ∧ Below w.heap.size w w') := cpr
          clear cpr L1 hrr a0 a1 b0 b1
          obtain ⟨u, hu⟩ : ∃ u, ratT a b = u := ⟨_, rfl⟩
          rw [hu] at CFR CPR
          clear hu
          have ea : (a == a) = true := by simp
          have eb : (b == b) = true := by simp
          obtain ⟨⟨g0, g1⟩, _⟩ := G9.out
          go_wp2_with fail
          refine (CFR.out _ (HE.out.1.below HB9.out)).mono ?_; rintro e w10 ⟨rfl, hb⟩
          have G10 := hide (G9.out.call hb)
          have HB10 := hide (kb_call HB9.out (Nat.le_refl _) hb)
          clear hb G9 HB9 g0 g1
          go_wp2_with fail
          refine (CPR.out _ (HE.out.below HB10.out)).mono ?_; rintro e w11 ⟨rfl, hb⟩
          have G11 := hide ((G10.out.call hb).alloc (.cells #[.int .i64 a, .int .i64 b] 23))
          have Z11 := hide (Box2.new (x := .int .i64 a) (y := .int .i64 b) w11 w11.heap.size 23 rfl)
          have HB11 := hide ((kb_call HB10.out (Nat.le_refl _) hb).alloc (by have := HB10.out.size; have := hb.size; omega) (.cells #[.int .i64 a, .int .i64 b] 23))
          clear hb G10 HB10
          obtain ⟨⟨g0, g1⟩, _⟩ := G11.out
          go_wp2_with fail
          refine (CIR.out _).mono ?_; rintro e w12 ⟨rfl, hb⟩
          have G12 := hide (G11.out.call hb)
          have Z12 := hide (Z11.out.call hb)
          have HB12 := hide (kb_call HB11.out (Nat.le_refl _) hb)
          clear hb G11 Z11 HB11 g0 g1
          obtain ⟨⟨g0, g1⟩, _⟩ := G12.out
          obtain ⟨⟨z0, z1⟩, _⟩ := Z12.out
          go_wp2_with fail
          go_ret
          exact ⟨rfl, HB12.out⟩
        · skip
          have L1 := ratT_len a0 a1 b0 b1
          have CFR := hide fun (w : World) hT => implFormatRatio a b a0 a1 b0 b1 w hT
          have CIR := hide fun (w : World) => specIsRatio a b w
          rw [hrr] at CIR
          rw [ratT_none hrr] at CFR
          have cpr := fun (w : World) (hE : Env w) => implParseRatio ([110, 111, 110, 101]) (by decide) w hE
          rw [prI_none] at cpr
          have CPR : Hid (∀ w, Env w → Calls Tryd.prog 9 #[sv ([110, 111, 110, 101])] w fun e w' => e = .returned (.tuple #[rv 0 0, .bool false]) ∧ Below w.heap.size w w') := cpr
          clear cpr L1 hrr a0 a1 b0 b1
          obtain ⟨⟨g0, g1⟩, _⟩ := G9.out
          go_wp2_with fail
          refine (CFR.out _ (HE.out.1.below HB9.out)).mono ?_; rintro e w10 ⟨rfl, hb⟩
          have G10 := hide (G9.out.call hb)
          have HB10 := hide (kb_call HB9.out (Nat.le_refl _) hb)
          clear hb G9 HB9 g0 g1
          go_wp2_with fail
          refine (CPR.out _ (HE.out.below HB10.out)).mono ?_; rintro e w11 ⟨rfl, hb⟩
          have G11 := hide ((G10.out.call hb).alloc (.cells #[.int .i64 0, .int .i64 0] 23))
          have Z11 := hide (Box2.new (x := .int .i64 0) (y := .int .i64 0) w11 w11.heap.size 23 rfl)
          have HB11 := hide ((kb_call HB10.out (Nat.le_refl _) hb).alloc (by have := HB10.out.size; have := hb.size; omega) (.cells #[.int .i64 0, .int .i64 0] 23))
          clear hb G10 HB10
          obtain ⟨⟨g0, g1⟩, _⟩ := G11.out
          go_wp2_with fail
          refine (CIR.out _).mono ?_; rintro e w12 ⟨rfl, hb⟩
          have G12 := hide (G11.out.call hb)
          have Z12 := hide (Z11.out.call hb)
          have HB12 := hide (kb_call HB11.out (Nat.le_refl _) hb)
          clear hb G11 Z11 HB11 g0 g1
          obtain ⟨⟨g0, g1⟩, _⟩ := G12.out
          obtain ⟨⟨z0, z1⟩, _⟩ := Z12.out
          go_wp2_with fail
          go_ret
          exact ⟨rfl, HB12.out⟩
      · have hbk := HBK.out rfl
        have CF6 : Hid (∀ w', Own w' w5.heap.size (.slice A6 ys.length z6) ys → Tab10 w' → Calls Tryd.prog 18 #[mv r2 c2 (.slice A6 ys.length z6)] w' fun e w'' => e = .returned (sv t) ∧ Below w'.heap.size w' w'') := fun w' h hT => by
          have := implFormatMatrix r2 c2 A6 z6 ys w' (Own.sl2 h) (by omega) hT
          rwa [hbk] at this
        clear hbk HBK
        obtain ⟨⟨x0, x1, x2⟩, _⟩ := Y6.out
        go_wp2_with fail
        refine (CF6.out _ O6.out (HE.out.1.below HB6.out)).mono ?_; rintro e w7 ⟨rfl, hb⟩
        have HB7 := hide (kb_call HB6.out (Nat.le_refl _) hb)
        clear hb O6 Y6 HB6 CF6 x0 x1 x2
        go_wp2_with fail
        refine (drawFmtRat A l cap _ ((HS.out.below HB7.out).mono HB7.out.size) hn).mono ?_; rintro e w9 ⟨⟨a, b, rfl, ⟨a0, a1⟩, b0, b1⟩, hb⟩
        have G9 := hide (Box2.new (x := .int .i64 a) (y := .int .i64 b) w9 w9.heap.size 23 rfl)
        have HB9 := hide ((kb_call HB7.out (Nat.le_refl _) hb).alloc (by have := HB7.out.size; have := hb.size; omega) (.cells #[.int .i64 a, .int .i64 b] 23))
        clear hb
        rcases Bool.eq_false_or_eq_true (isRatio a b) with hrr | hrr
        · skip
          have L1 := ratT_len a0 a1 b0 b1
          have CFR := hide fun (w : World) hT => implFormatRatio a b a0 a1 b0 b1 w hT
          have CIR := hide fun (w : World) => specIsRatio a b w
          rw [hrr] at CIR
          have cpr := fun (w : World) (hE : Env w) => implParseRatio (ratT a b) (by omega) w hE
          rw [prI_yes hrr] at cpr
          have CPR : Hid (∀ w, Env w → Calls Tryd.prog 9 #[sv (ratT a b)] w fun e w' => e = .returned (.tuple #[rv a b, .bool true]) ∧ Below w.heap.size w w') := cpr
          clear cpr L1 hrr a0 a1 b0 b1
          obtain ⟨u, hu⟩ : ∃ u, ratT a b = u := ⟨_, rfl⟩
          rw [hu] at CFR CPR
          clear hu
          have ea : (a == a) = true := by simp
          have eb : (b == b) = true := by simp
          obtain ⟨⟨g0, g1⟩, _⟩ := G9.out
          go_wp2_with fail
          refine (CFR.out _ (HE.out.1.below HB9.out)).mono ?_; rintro e w10 ⟨rfl, hb⟩
          have G10 := hide (G9.out.call hb)
          have HB10 := hide (kb_call HB9.out (Nat.le_refl _) hb)
          clear hb G9 HB9 g0 g1
          go_wp2_with fail
          refine (CPR.out _ (HE.out.below HB10.out)).mono ?_; rintro e w11 ⟨rfl, hb⟩
          have G11 := hide ((G10.out.call hb).alloc (.cells #[.int .i64 a, .int .i64 b] 23))
          have Z11 := hide (Box2.new (x := .int .i64 a) (y := .int .i64 b) w11 w11.heap.size 23 rfl)
          have HB11 := hide ((kb_call HB10.out (Nat.le_refl _) hb).alloc (by have := HB10.out.size; have := hb.size; omega) (.cells #[.int .i64 a, .int .i64 b] 23))
          clear hb G10 HB10
          obtain ⟨⟨g0, g1⟩, _⟩ := G11.out
          go_wp2_with fail
          refine (CIR.out _).mono ?_; rintro e w12 ⟨rfl, hb⟩
          have G12 := hide (G11.out.call hb)
          have Z12 := hide (Z11.out.call hb)
          have HB12 := hide (kb_call HB11.out (Nat.le_refl _) hb)
          clear hb G11 Z11 HB11 g0 g1
          obtain ⟨⟨g0, g1⟩, _⟩ := G12.out
          obtain ⟨⟨z0, z1⟩, _⟩ := Z12.out
          go_wp2_with fail
          go_ret
          exact ⟨rfl, HB12.out⟩
        · skip
          have L1 := ratT_len a0 a1 b0 b1
          have CFR := hide fun (w : World) hT => implFormatRatio a b a0 a1 b0 b1 w hT
          have CIR := hide fun (w : World) => specIsRatio a b w
          rw [hrr] at CIR
          rw [ratT_none hrr] at CFR
          have cpr := fun (w : World) (hE : Env w) => implParseRatio ([110, 111, 110, 101]) (by decide) w hE
          rw [prI_none] at cpr
          have CPR : Hid (∀ w, Env w → Calls Tryd.prog 9 #[sv ([110, 111, 110, 101])] w fun e w' => e = .returned (.tuple #[rv 0 0, .bool false]) ∧ Below w.heap.size w w') := cpr
          clear cpr L1 hrr a0 a1 b0 b1
          obtain ⟨⟨g0, g1⟩, _⟩ := G9.out
          go_wp2_with fail
          refine (CFR.out _ (HE.out.1.below HB9.out)).mono ?_; rintro e w10 ⟨rfl, hb⟩
          have G10 := hide (G9.out.call hb)
          have HB10 := hide (kb_call HB9.out (Nat.le_refl _) hb)
          clear hb G9 HB9 g0 g1
          go_wp2_with fail
          refine (CPR.out _ (HE.out.below HB10.out)).mono ?_; rintro e w11 ⟨rfl, hb⟩
          have G11 := hide ((G10.out.call hb).alloc (.cells #[.int .i64 0, .int .i64 0] 23))
          have Z11 := hide (Box2.new (x := .int .i64 0) (y := .int .i64 0) w11 w11.heap.size 23 rfl)
          have HB11 := hide ((kb_call HB10.out (Nat.le_refl _) hb).alloc (by have := HB10.out.size; have := hb.size; omega) (.cells #[.int .i64 0, .int .i64 0] 23))
          clear hb G10 HB10
          obtain ⟨⟨g0, g1⟩, _⟩ := G11.out
          go_wp2_with fail
          refine (CIR.out _).mono ?_; rintro e w12 ⟨rfl, hb⟩
          have G12 := hide (G11.out.call hb)
          have Z12 := hide (Z11.out.call hb)
          have HB12 := hide (kb_call HB11.out (Nat.le_refl _) hb)
          clear hb G11 Z11 HB11 g0 g1
          obtain ⟨⟨g0, g1⟩, _⟩ := G12.out
          obtain ⟨⟨z0, z1⟩, _⟩ := Z12.out
          go_wp2_with fail
          go_ret
          exact ⟨rfl, HB12.out⟩
    · have hT0 : T = [] := by rw [← hT, fmtM_no hbm]
      subst hT0
      have CPX : Hid (∀ w', Env w' → Calls Tryd.prog 12 #[sv []] w' fun e w'' => ∃ s, e = .returned (.tuple #[mv 0 0 s, .bool false]) ∧ Own w'' w'.heap.size s [] ∧ Below w'.heap.size w' w'') := by
        rw [pmI_nil] at cp
        exact cp
      rw [hbm] at CI
      clear cp hT hbm hTl
      go_wp2_with fail
      refine (CPX.out _ (HE.out.below HB2.out)).mono ?_; rintro e w3 ⟨s, rfl, ho, hb⟩
      obtain ⟨A3, z3, rfl, _⟩ := Own.sl ho
      rw [show ([] : List Int).length = 0 from rfl] at ho ⊢
      have O3 := hide ((O2.out.below hb).alloc (.cells #[.int .i64 0, .int .i64 0, .slice A3 0 z3] 30))
      have b3 := hide ((b2.out.call hb).alloc (.cells #[.int .i64 0, .int .i64 0, .slice A3 0 z3] 30))
      have HB3 := hide ((kb_call HB2.out (Nat.le_refl _) hb).alloc (by have := HB2.out.size; have := hb.size; omega) (.cells #[.int .i64 0, .int .i64 0, .slice A3 0 z3] 30))
      clear ho hb O2 b2 HB2 CPX
      obtain ⟨⟨i0, i1, i2⟩, _⟩ := b3.out
      go_wp2_with fail
      refine (CI.out _ O3.out).mono ?_; rintro e w4 ⟨rfl, hb⟩
      have HB4b := hide (kb_call HB3.out (Nat.le_refl _) hb)
      clear hb O3 b3 HB3 CI CSM HXN i0 i1 i2
      go_wp2_with fail
      refine (drawPrsMat A l cap _ ((HS.out.below HB4b.out).mono HB4b.out.size) hn).mono ?_; rintro e w5 ⟨⟨t, rfl, htl⟩, hb⟩
      have HB5 := hide (kb_call HB4b.out (Nat.le_refl _) hb)
      clear hb
      have cpt := fun (w' : World) (hE : Env w') => implParseMatrix t (by omega) w' hE
      have hsm := pmI_small t
      have hbk := pmI_back (l := t)
      obtain ⟨⟨r2, c2, ys, k2⟩, hp2⟩ : ∃ p, pmI t = p := ⟨_, rfl⟩
      rw [hp2] at cpt hsm hbk
      simp only at hsm hbk
      have CPT : Hid (∀ w', Env w' → Calls Tryd.prog 12 #[sv t] w' fun e w'' => ∃ s, e = .returned (.tuple #[mv r2 c2 s, .bool k2]) ∧ Own w'' w'.heap.size s ys ∧ Below w'.heap.size w' w'') := cpt
      clear cpt hp2 htl
      have HBK := hide hbk
      clear hbk
      go_wp2_with fail
      refine (CPT.out _ (HE.out.below HB5.out)).mono ?_; rintro e w6 ⟨s2, rfl, ho, hb⟩
      obtain ⟨A6, z6, rfl, _⟩ := Own.sl ho
      have O6 := hide (ho.alloc (.cells #[.int .i64 r2, .int .i64 c2, .slice A6 ys.length z6] 30))
      have Y6 := hide (Box3.new (x := .int .i64 r2) (y := .int .i64 c2) (z := .slice A6 ys.length z6) w6 w6.heap.size 30 rfl)
      have HB6 := hide ((kb_call HB5.out (Nat.le_refl _) hb).alloc (by have := HB5.out.size; have := hb.size; omega) (.cells #[.int .i64 r2, .int .i64 c2, .slice A6 ys.length z6] 30))
      clear ho hb HB5
      cases k2
      · clear HBK
        go_wp2_with fail
        refine (drawFmtRat A l cap _ ((HS.out.below HB6.out).mono HB6.out.size) hn).mono ?_; rintro e w9 ⟨⟨a, b, rfl, ⟨a0, a1⟩, b0, b1⟩, hb⟩
        have G9 := hide (Box2.new (x := .int .i64 a) (y := .int .i64 b) w9 w9.heap.size 23 rfl)
        have HB9 := hide ((kb_call HB6.out (Nat.le_refl _) hb).alloc (by have := HB6.out.size; have := hb.size; omega) (.cells #[.int .i64 a, .int .i64 b] 23))
        clear hb
        rcases Bool.eq_false_or_eq_true (isRatio a b) with hrr | hrr
        · skip
          have L1 := ratT_len a0 a1 b0 b1
          have CFR := hide fun (w : World) hT => implFormatRatio a b a0 a1 b0 b1 w hT
          have CIR := hide fun (w : World) => specIsRatio a b w
          rw [hrr] at CIR
          have cpr := fun (w : World) (hE : Env w) => implParseRatio (ratT a b) (by omega) w hE
          rw [prI_yes hrr] at cpr
          have CPR : Hid (∀ w, Env w → Calls Tryd.prog 9 #[sv (ratT a b)] w fun e w' => e = .returned (.tuple #[rv a b, .bool true]) ∧ Below w.heap.size w w') := cpr
          clear cpr L1 hrr a0 a1 b0 b1
          obtain ⟨u, hu⟩ : ∃ u, ratT a b = u := ⟨_, rfl⟩
          rw [hu] at CFR CPR
          clear hu
          have ea : (a == a) = true := by simp
          have eb : (b == b) = true := by simp
          obtain ⟨⟨g0, g1⟩, _⟩ := G9.out
          go_wp2_with fail
          refine (CFR.out _ (HE.out.1.below HB9.out)).mono ?_; rintro e w10 ⟨rfl, hb⟩
          have G10 := hide (G9.out.call hb)
          have HB10 := hide (kb_call HB9.out (Nat.le_refl _) hb)
          clear hb G9 HB9 g0 g1
          go_wp2_with fail
          refine (CPR.out _ (HE.out.below HB10.out)).mono ?_; rintro e w11 ⟨rfl, hb⟩
          have G11 := hide ((G10.out.call hb).alloc (.cells #[.int .i64 a, .int .i64 b] 23))
          have Z11 := hide (Box2.new (x := .int .i64 a) (y := .int .i64 b) w11 w11.heap.size 23 rfl)
          have HB11 := hide ((kb_call HB10.out (Nat.le_refl _) hb).alloc (by have := HB10.out.size; have := hb.size; omega) (.cells #[.int .i64 a, .int .i64 b] 23))
          clear hb G10 HB10
          obtain ⟨⟨g0, g1⟩, _⟩ := G11.out
          go_wp2_with fail
          refine (CIR.out _).mono ?_; rintro e w12 ⟨rfl, hb⟩
          have G12 := hide (G11.out.call hb)
          have Z12 := hide (Z11.out.call hb)
          have HB12 := hide (kb_call HB11.out (Nat.le_refl _) hb)
          clear hb G11 Z11 HB11 g0 g1
          obtain ⟨⟨g0, g1⟩, _⟩ := G12.out
          obtain ⟨⟨z0, z1⟩, _⟩ := Z12.out
          go_wp2_with fail
          go_ret
          exact ⟨rfl, HB12.out⟩
        · skip
          have L1 := ratT_len a0 a1 b0 b1
          have CFR := hide fun (w : World) hT => implFormatRatio a b a0 a1 b0 b1 w hT
          have CIR := hide fun (w : World) => specIsRatio a b w
          rw [hrr] at CIR
          rw [ratT_none hrr] at CFR
          have cpr := fun (w : World) (hE : Env w) => implParseRatio ([110, 111, 110, 101]) (by decide) w hE
          rw [prI_none] at cpr
          have CPR : Hid (∀ w, Env w → Calls Tryd.prog 9 #[sv ([110, 111, 110, 101])] w fun e w' => e = .returned (.tuple #[rv 0 0, .bool false]) ∧ Below w.heap.size w w') := cpr
          clear cpr L1 hrr a0 a1 b0 b1
          obtain ⟨⟨g0, g1⟩, _⟩ := G9.out
          go_wp2_with fail
          refine (CFR.out _ (HE.out.1.below HB9.out)).mono ?_; rintro e w10 ⟨rfl, hb⟩
          have G10 := hide (G9.out.call hb)
          have HB10 := hide (kb_call HB9.out (Nat.le_refl _) hb)
          clear hb G9 HB9 g0 g1
          go_wp2_with fail
          refine (CPR.out _ (HE.out.below HB10.out)).mono ?_; rintro e w11 ⟨rfl, hb⟩
          have G11 := hide ((G10.out.call hb).alloc (.cells #[.int .i64 0, .int .i64 0] 23))
          have Z11 := hide (Box2.new (x := .int .i64 0) (y := .int .i64 0) w11 w11.heap.size 23 rfl)
          have HB11 := hide ((kb_call HB10.out (Nat.le_refl _) hb).alloc (by have := HB10.out.size; have := hb.size; omega) (.cells #[.int .i64 0, .int .i64 0] 23))
          clear hb G10 HB10
          obtain ⟨⟨g0, g1⟩, _⟩ := G11.out
          go_wp2_with fail
          refine (CIR.out _).mono ?_; rintro e w12 ⟨rfl, hb⟩
          have G12 := hide (G11.out.call hb)
          have Z12 := hide (Z11.out.call hb)
          have HB12 := hide (kb_call HB11.out (Nat.le_refl _) hb)
          clear hb G11 Z11 HB11 g0 g1
          obtain ⟨⟨g0, g1⟩, _⟩ := G12.out
          obtain ⟨⟨z0, z1⟩, _⟩ := Z12.out
          go_wp2_with fail
          go_ret
          exact ⟨rfl, HB12.out⟩
      · have hbk := HBK.out rfl
        have CF6 : Hid (∀ w', Own w' w5.heap.size (.slice A6 ys.length z6) ys → Tab10 w' → Calls Tryd.prog 18 #[mv r2 c2 (.slice A6 ys.length z6)] w' fun e w'' => e = .returned (sv t) ∧ Below w'.heap.size w' w'') := fun w' h hT => by
          have := implFormatMatrix r2 c2 A6 z6 ys w' (Own.sl2 h) (by omega) hT
          rwa [hbk] at this
        clear hbk HBK
        obtain ⟨⟨x0, x1, x2⟩, _⟩ := Y6.out
        go_wp2_with fail
        refine (CF6.out _ O6.out (HE.out.1.below HB6.out)).mono ?_; rintro e w7 ⟨rfl, hb⟩
        have HB7 := hide (kb_call HB6.out (Nat.le_refl _) hb)
        clear hb O6 Y6 HB6 CF6 x0 x1 x2
        go_wp2_with fail
        refine (drawFmtRat A l cap _ ((HS.out.below HB7.out).mono HB7.out.size) hn).mono ?_; rintro e w9 ⟨⟨a, b, rfl, ⟨a0, a1⟩, b0, b1⟩, hb⟩
        have G9 := hide (Box2.new (x := .int .i64 a) (y := .int .i64 b) w9 w9.heap.size 23 rfl)
        have HB9 := hide ((kb_call HB7.out (Nat.le_refl _) hb).alloc (by have := HB7.out.size; have := hb.size; omega) (.cells #[.int .i64 a, .int .i64 b] 23))
        clear hb
        rcases Bool.eq_false_or_eq_true (isRatio a b) with hrr | hrr
        · skip
          have L1 := ratT_len a0 a1 b0 b1
          have CFR := hide fun (w : World) hT => implFormatRatio a b a0 a1 b0 b1 w hT
          have CIR := hide fun (w : World) => specIsRatio a b w
          rw [hrr] at CIR
          have cpr := fun (w : World) (hE : Env w) => implParseRatio (ratT a b) (by omega) w hE
          rw [prI_yes hrr] at cpr
          have CPR : Hid (∀ w, Env w → Calls Tryd.prog 9 #[sv (ratT a b)] w fun e w' => e = .returned (.tuple #[rv a b, .bool true]) ∧ Below w.heap.size w w') := cpr
          clear cpr L1 hrr a0 a1 b0 b1
          obtain ⟨u, hu⟩ : ∃ u, ratT a b = u := ⟨_, rfl⟩
          rw [hu] at CFR CPR
          clear hu
          have ea : (a == a) = true := by simp
          have eb : (b == b) = true := by simp
          obtain ⟨⟨g0, g1⟩, _⟩ := G9.out
          go_wp2_with fail
          refine (CFR.out _ (HE.out.1.below HB9.out)).mono ?_; rintro e w10 ⟨rfl, hb⟩
          have G10 := hide (G9.out.call hb)
          have HB10 := hide (kb_call HB9.out (Nat.le_refl _) hb)
          clear hb G9 HB9 g0 g1
          go_wp2_with fail
          refine (CPR.out _ (HE.out.below HB10.out)).mono ?_; rintro e w11 ⟨rfl, hb⟩
          have G11 := hide ((G10.out.call hb).alloc (.cells #[.int .i64 a, .int .i64 b] 23))
          have Z11 := hide (Box2.new (x := .int .i64 a) (y := .int .i64 b) w11 w11.heap.size 23 rfl)
          have HB11 := hide ((kb_call HB10.out (Nat.le_refl _) hb).alloc (by have := HB10.out.size; have := hb.size; omega) (.cells #[.int .i64 a, .int .i64 b] 23))
          clear hb G10 HB10
          obtain ⟨⟨g0, g1⟩, _⟩ := G11.out
          go_wp2_with fail
          refine (CIR.out _).mono ?_; rintro e w12 ⟨rfl, hb⟩
          have G12 := hide (G11.out.call hb)
          have Z12 := hide (Z11.out.call hb)
          have HB12 := hide (kb_call HB11.out (Nat.le_refl _) hb)
          clear hb G11 Z11 HB11 g0 g1
          obtain ⟨⟨g0, g1⟩, _⟩ := G12.out
          obtain ⟨⟨z0, z1⟩, _⟩ := Z12.out
          go_wp2_with fail
          go_ret
          exact ⟨rfl, HB12.out⟩
        · skip
          have L1 := ratT_len a0 a1 b0 b1
          have CFR := hide fun (w : World) hT => implFormatRatio a b a0 a1 b0 b1 w hT
          have CIR := hide fun (w : World) => specIsRatio a b w
          rw [hrr] at CIR
          rw [ratT_none hrr] at CFR
          have cpr := fun (w : World) (hE : Env w) => implParseRatio ([110, 111, 110, 101]) (by decide) w hE
          rw [prI_none] at cpr
          have CPR : Hid (∀ w, Env w → Calls Tryd.prog 9 #[sv ([110, 111, 110, 101])] w fun e w' => e = .returned (.tuple #[rv 0 0, .bool false]) ∧ Below w.heap.size w w') := cpr
          clear cpr L1 hrr a0 a1 b0 b1
          obtain ⟨⟨g0, g1⟩, _⟩ := G9.out
          go_wp2_with fail
          refine (CFR.out _ (HE.out.1.below HB9.out)).mono ?_; rintro e w10 ⟨rfl, hb⟩
          have G10 := hide (G9.out.call hb)
          have HB10 := hide (kb_call HB9.out (Nat.le_refl _) hb)
          clear hb G9 HB9 g0 g1
          go_wp2_with fail
          refine (CPR.out _ (HE.out.below HB10.out)).mono ?_; rintro e w11 ⟨rfl, hb⟩
          have G11 := hide ((G10.out.call hb).alloc (.cells #[.int .i64 0, .int .i64 0] 23))
          have Z11 := hide (Box2.new (x := .int .i64 0) (y := .int .i64 0) w11 w11.heap.size 23 rfl)
          have HB11 := hide ((kb_call HB10.out (Nat.le_refl _) hb).alloc (by have := HB10.out.size; have := hb.size; omega) (.cells #[.int .i64 0, .int .i64 0] 23))
          clear hb G10 HB10
          obtain ⟨⟨g0, g1⟩, _⟩ := G11.out
          go_wp2_with fail
          refine (CIR.out _).mono ?_; rintro e w12 ⟨rfl, hb⟩
          have G12 := hide (G11.out.call hb)
          have Z12 := hide (Z11.out.call hb)
          have HB12 := hide (kb_call HB11.out (Nat.le_refl _) hb)
          clear hb G11 Z11 HB11 g0 g1
          obtain ⟨⟨g0, g1⟩, _⟩ := G12.out
          obtain ⟨⟨z0, z1⟩, _⟩ := Z12.out
          go_wp2_with fail
          go_ret
          exact ⟨rfl, HB12.out⟩
  · go_enter Tryd.func5, Tryd.ntmps5
    go_wp2_with fail
    refine (lawBig_yes A l cap _ (by omega) (by omega)).mono ?_; rintro e w0 ⟨rfl, rfl⟩
    go_wp2_with fail
    go_ret
    exact ⟨rfl, Below.refl _ _⟩
end Go.Proofs.YtkaiekhmcjojoaaDoor
