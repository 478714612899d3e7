/- Numerals read back: plain laws. -/
import Derived.Test.YtkaiekhmcjojoaaDoorFmtL
import Derived.Test.YtkaiekhmcjojoaaDoorNum
import Derived.Lib.AtoiTie
import Derived.Lib.AtoiErr
namespace Go.Proofs.YtkaiekhmcjojoaaDoor
open Go.RowKit
set_option linter.unusedSimpArgs false
set_option linter.unusedVariables false
open Go.Lib

theorem dig_nat {d : Nat} (h : d < 10) : (UInt8.ofNat (48 + d)).toNat = 48 + d := by
  rw [UInt8.toNat_ofNat', Nat.mod_eq_of_lt (by omega)]
theorem dig_val {d : Nat} (h : d < 10) : digitVal (UInt8.ofNat (48 + d)) = some d := by
  rw [digitVal, dig_nat h, if_pos (by omega)]
  congr 1; omega
theorem decFrom_snoc (b : UInt8) : ∀ (l : List UInt8) (acc : Nat), decFrom acc (l ++ [b]) = (decFrom acc l).bind fun m => (digitVal b).map fun d => m * 10 + d
  | [], acc => by
    simp only [List.nil_append, decFrom]
    cases digitVal b <;> rfl
  | c :: l, acc => by
    simp only [List.cons_append, decFrom]
    cases digitVal c with
    | none => rfl
    | some d => exact decFrom_snoc b l _
theorem decFrom_digits (u : Nat) : decFrom 0 (decDigits u) = some u := by
  induction u using Nat.strongRecOn with
  | _ u ih =>
    rw [decDigits]
    by_cases h : u < 10
    · rw [dif_pos h]
      simp only [decFrom, dig_val h]
      congr 1; omega
    · rw [dif_neg h, decFrom_snoc, ih (u / 10) (by omega), dig_val (by omega)]
      simp only [Option.bind_some, Option.map_some]
      congr 1; omega
theorem decDigits_ne (u : Nat) : decDigits u ≠ [] := fun e => by
  have := congrArg List.length e
  rw [decDigits_length] at this
  have := nDigits_pos u
  simp at *
  omega
theorem decNat_digits (u : Nat) : decNat (decDigits u) = some u := by
  rw [decNat, if_neg (by simpa using decDigits_ne u), decFrom_digits]
/-- A numeral's bytes are digits. -/
theorem digits_dig (u : Nat) : ∀ b ∈ decDigits u, 48 ≤ b.toNat ∧ b.toNat ≤ 57 := by
  intro b hb
  obtain ⟨k, hk, e⟩ := List.mem_iff_getElem.1 hb
  obtain ⟨d, hd⟩ := digit_of_decFrom _ _ _ (decFrom_digits u) k b (by rw [List.getElem?_eq_getElem hk, e])
  have := digitVal_eq hd
  exact ⟨this.1, this.2.1⟩
theorem itoa_cases (n : Int) : (n < 0 ∧ itoa n = 45 :: decDigits n.natAbs) ∨ (0 ≤ n ∧ itoa n = decDigits n.natAbs) := by
  by_cases h : n < 0
  · exact .inl ⟨h, by rw [itoa, if_pos h]⟩
  · exact .inr ⟨by omega, by rw [itoa, if_neg h]; congr 1; omega⟩
theorem atoi_itoa (n : Int) : atoi (itoa n) = some n := by
  rcases itoa_cases n with ⟨h, e⟩ | ⟨h, e⟩
  · rw [e]
    simp only [atoi]
    simp [decNat_digits]
    omega
  · rw [e]
    cases hd : decDigits n.natAbs with
    | nil => exact absurd hd (decDigits_ne _)
    | cons c r =>
      have hc := digits_dig n.natAbs c (by rw [hd]; simp)
      have h43 : ¬ c = 43 := fun e2 => by subst e2; exact absurd hc.1 (by decide)
      have h45 : ¬ c = 45 := fun e2 => by subst e2; exact absurd hc.1 (by decide)
      have h2 := decNat_digits n.natAbs
      rw [hd] at h2
      simp [atoi, h43, h45, h2]
      omega
theorem itoa_inj {n m : Int} (h : itoa n = itoa m) : n = m := by
  have h1 := atoi_itoa n
  rw [h, atoi_itoa] at h1
  exact (Option.some.inj h1).symm
theorem nDigits_num {n : Int} (h : isNum n = true) : nDigits n.natAbs ≤ 9 := by
  have := isNum_t h
  exact nDigits_le (u := n.natAbs) (k := 9) (by omega) (by omega)
theorem itoa_num_len {n : Int} (h : isNum n = true) : (itoa n).length ≤ 10 ∧ 1 ≤ (itoa n).length := by
  have h1 := nDigits_num h
  have h2 := nDigits_pos n.natAbs
  rcases itoa_cases n with ⟨_, e⟩ | ⟨_, e⟩
  · rw [e, List.length_cons, decDigits_length]; omega
  · rw [e, decDigits_length]; omega
theorem atoiAll_num {n : Int} (h : isNum n = true) : atoiAll (itoa n) = .ok n := by
  rw [atoiAll_short _ (by have := itoa_num_len h; omega), atoi_itoa]
  rfl
/-- The number whose text this is, within the limit. -/
def parseI (l : List UInt8) : Option Int :=
  match atoi l with
  | some n => if isNum n = true ∧ itoa n = l then some n else none
  | none => none
theorem parseI_iff {l : List UInt8} {n : Int} : parseI l = some n ↔ isNum n = true ∧ itoa n = l := by
  unfold parseI
  constructor
  · intro h
    split at h
    · split at h
      · injection h with h; subst h; assumption
      · cases h
    · cases h
  · rintro ⟨h, rfl⟩
    rw [atoi_itoa]
    simp [h]
theorem parseI_itoa {n : Int} (h : isNum n = true) : parseI (itoa n) = some n := parseI_iff.2 ⟨h, rfl⟩
theorem parseI_no {l : List UInt8} (h : ∀ n, isNum n = true → itoa n ≠ l) : parseI l = none := by
  cases hp : parseI l with
  | none => rfl
  | some n => exact absurd (parseI_iff.1 hp).2 (h n (parseI_iff.1 hp).1)
theorem parseI_big {n : Int} (h : isNum n = false) : parseI (itoa n) = none := parseI_no fun m hm e => by
  rw [itoa_inj e, h] at hm; cases hm
/-- What a text's body reads to: behind a sign. -/
def bodyOf (l : List UInt8) : List UInt8 := if l.head? = some 45 then l.drop 1 else l
theorem bodyOf_itoa (n : Int) : bodyOf (itoa n) = decDigits n.natAbs := by
  rcases itoa_cases n with ⟨_, e⟩ | ⟨_, e⟩
  · rw [e, bodyOf]; simp
  · rw [e, bodyOf]
    cases hd : decDigits n.natAbs with
    | nil => exact absurd hd (decDigits_ne _)
    | cons c r =>
      have hc := digits_dig n.natAbs c (by rw [hd]; simp)
      rw [if_neg]
      intro e2
      simp at e2
      subst e2
      exact absurd hc.1 (by decide)
theorem sign_itoa (n : Int) : (itoa n).head? = some 45 ↔ n < 0 := by
  rcases itoa_cases n with ⟨h, e⟩ | ⟨h, e⟩
  · rw [e]; simp [h]
  · rw [e]
    cases hd : decDigits n.natAbs with
    | nil => exact absurd hd (decDigits_ne _)
    | cons c r =>
      have hc := digits_dig n.natAbs c (by rw [hd]; simp)
      constructor
      · intro e2
        simp at e2
        subst e2
        exact absurd hc.1 (by decide)
      · intro h2; omega
/-- A byte that is no digit: no number's text. -/
theorem parseI_bad {l : List UInt8} {j : Nat} {b : UInt8} (h : (bodyOf l)[j]? = some b) (hb : b.toNat < 48 ∨ 57 < b.toNat) : parseI l = none := parseI_no fun n _ e => by
  subst e
  rw [bodyOf_itoa] at h
  have := digits_dig n.natAbs b (List.mem_of_getElem? h)
  omega
theorem parseI_long {l : List UInt8} (h : 10 < (bodyOf l).length) : parseI l = none := parseI_no fun n hn e => by
  subst e
  rw [bodyOf_itoa, decDigits_length] at h
  have := nDigits_num hn
  omega
theorem parseI_short {l : List UInt8} (h : (bodyOf l).length < 1) : parseI l = none := parseI_no fun n hn e => by
  subst e
  rw [bodyOf_itoa, decDigits_length] at h
  have := nDigits_pos n.natAbs
  omega
/-- The whole body is read as k: the number is k or -k, if any. -/
theorem parseI_val {l : List UInt8} {k : Nat} (h : decFrom 0 (bodyOf l) = some k) : ∀ m, parseI l = some m → m = if l.head? = some 45 then -(k : Int) else k := by
  intro m hm
  obtain ⟨_, rfl⟩ := parseI_iff.1 hm
  rw [bodyOf_itoa, decFrom_digits] at h
  injection h with h
  by_cases hs : m < 0
  · rw [if_pos ((sign_itoa m).2 hs)]; omega
  · rw [if_neg (fun e => hs ((sign_itoa m).1 e))]; omega
theorem parseI_end {l : List UInt8} {k : Nat} {m : Int} (h : decFrom 0 (bodyOf l) = some k) (hm : m = if l.head? = some 45 then -(k : Int) else k) :
    parseI l = if isNum m = true ∧ itoa m = l then some m else none := by
  split
  · rename_i h2; exact parseI_iff.2 h2
  · rename_i h2
    cases hp : parseI l with
    | none => rfl
    | some q =>
      have := parseI_val h q hp
      rw [← hm] at this
      subst this
      exact absurd (parseI_iff.1 hp) h2
end Go.Proofs.YtkaiekhmcjojoaaDoor
