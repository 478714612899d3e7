/- A matrix's text taken apart: plain laws. -/
import Derived.Test.YtkaiekhmcjojoaaDoorFldL
namespace Go.Proofs.YtkaiekhmcjojoaaDoor
open Go.RowKit
set_option linter.unusedSimpArgs false
set_option linter.unusedVariables false
open Go.Lib
theorem splitF_run {p : UInt8 → Bool} : ∀ (a cur r : List UInt8), (∀ b ∈ a, p b = false) → splitF p cur (a ++ r) = splitF p (cur ++ a) r
  | [], cur, r, _ => by simp
  | b :: a, cur, r, h => by
    rw [List.cons_append, splitF, h b (by simp), if_neg (by decide), splitF_run a _ r (fun x hx => h x (by simp [hx]))]
    simp
/-- The byte ahead of cell number p. -/
def sepT (c p : Nat) : UInt8 := if p % c = 0 then 59 else 32
theorem cellsT_succ (c : Nat) (xs : List Int) {p : Nat} (hp : p ≠ 0) : cellsT c xs (p + 1) = cellsT c xs p ++ sepT c p :: itoa (xs.getD p 0) := by
  rw [cellsT, if_neg hp, sepT]
  split <;> simp
theorem splitF_cells {q : UInt8 → Bool} (c : Nat) (xs : List Int) (h1 : q 59 = true) (h2 : q 32 = true) (h3 : ∀ n, ∀ b ∈ itoa n, q b = false) : ∀ (p : Nat) (tail : List UInt8), p < xs.length →
    splitF q [] (cellsT c xs (p + 1) ++ tail) = ((xs.take p).map itoa) ++ splitF q (itoa (xs.getD p 0)) tail
  | 0, tail, _ => by
    rw [show cellsT c xs (0 + 1) = itoa (xs.getD 0 0) by simp [cellsT], splitF_run _ _ _ (h3 _)]
    simp
  | p + 1, tail, hp => by
    have hsep : q (sepT c (p + 1)) = true := by rw [sepT]; split <;> assumption
    rw [cellsT_succ c xs (by omega), List.append_assoc, List.cons_append, splitF_cells c xs h1 h2 h3 p _ (by omega), splitF, if_pos hsep, splitF_run _ _ _ (h3 _), List.nil_append,
      List.take_succ_eq_append_getElem (show p < xs.length by omega), List.map_append]
    simp [List.getD, show p < xs.length by omega]
theorem take_last {xs : List Int} (h : 0 < xs.length) : ((xs.take (xs.length - 1)).map itoa) ++ [itoa (xs.getD (xs.length - 1) 0)] = xs.map itoa := by
  have h1 : xs.length - 1 < xs.length := by omega
  have := List.take_succ_eq_append_getElem h1
  rw [show xs.length - 1 + 1 = xs.length by omega, List.take_length] at this
  have h3 := congrArg (List.map itoa) this
  rw [List.map_append] at h3
  rw [h3]
  simp [List.getD, h1]
theorem splitF_all {q : UInt8 → Bool} (c : Nat) (xs : List Int) (h1 : q 59 = true) (h2 : q 32 = true) (h3 : ∀ n, ∀ b ∈ itoa n, q b = false) (h : 0 < xs.length) : splitF q [] (cellsT c xs xs.length) = xs.map itoa := by
  have := splitF_cells c xs h1 h2 h3 (xs.length - 1) [] (by omega)
  rw [show xs.length - 1 + 1 = xs.length by omega, List.append_nil] at this
  rw [this, splitF, take_last h]
theorem splitF_allc {q : UInt8 → Bool} (c : Nat) (xs : List Int) (h1 : q 59 = true) (h2 : q 32 = true) (h3 : ∀ n, ∀ b ∈ itoa n, q b = false) {d : UInt8} (hd : q d = true) (h : 0 < xs.length) : splitF q [] (cellsT c xs xs.length ++ [d]) = xs.map itoa ++ [[]] := by
  have := splitF_cells c xs h1 h2 h3 (xs.length - 1) [d] (by omega)
  rw [show xs.length - 1 + 1 = xs.length by omega] at this
  rw [this, splitF, if_pos hd, splitF, ← take_last h]
  simp
/-- The bytes of the cells' text. -/
theorem cellsT_bytes (c : Nat) (xs : List Int) : ∀ p, ∀ b ∈ cellsT c xs p, b = 59 ∨ b = 32 ∨ b = 45 ∨ (48 ≤ b.toNat ∧ b.toNat ≤ 57)
  | 0, b, h => by simp [cellsT] at h
  | p + 1, b, h => by
    by_cases hp : p = 0
    · subst hp
      rw [show cellsT c xs (0 + 1) = itoa (xs.getD 0 0) by simp [cellsT]] at h
      exact .inr (.inr (itoa_bytes _ _ h))
    · rw [cellsT_succ c xs hp] at h
      rcases List.mem_append.1 h with h | h
      · exact cellsT_bytes c xs p b h
      · rcases List.mem_cons.1 h with h | h
        · rw [h, sepT]; split
          · exact .inl rfl
          · exact .inr (.inl rfl)
        · exact .inr (.inr (itoa_bytes _ _ h))
theorem cellsT_num {c : Nat} {xs : List Int} (h : ∀ x ∈ xs, isNum x = true) : ∀ p, p ≤ xs.length → (cellsT c xs p).length ≤ p * 11
  | 0, _ => by simp [cellsT]
  | p + 1, hp => by
    have h1 := cellsT_num (c := c) h p (by omega)
    have h2 : (itoa (xs.getD p 0)).length ≤ 10 := by
      refine (itoa_num_len (h _ ?_)).1
      rw [show xs.getD p 0 = xs[p] from by simp [List.getD, show p < xs.length from by omega]]
      exact List.getElem_mem _
    by_cases h0 : p = 0
    · subst h0
      rw [show cellsT c xs (0 + 1) = itoa (xs.getD 0 0) by simp [cellsT]]
      omega
    · rw [cellsT_succ c xs h0, List.length_append, List.length_cons]
      omega
theorem matT_len {r c : Nat} {xs : List Int} (hr : r ≤ 24) (hc : c ≤ 24) (hl : xs.length ≤ 576) (h : ∀ x ∈ xs, isNum x = true) : (matT r c xs).length ≤ 7000 := by
  have h1 := (itoa_num_len (n := r) (isNum_mk (by omega))).1
  have h2 := (itoa_num_len (n := c) (isNum_mk (by omega))).1
  have h3 := cellsT_num (c := c) h xs.length (Nat.le_refl _)
  simp only [matT, List.length_append, List.length_cons, List.length_nil]
  omega
theorem matT_head (r c : Nat) (xs : List Int) : matT r c xs = (itoa r ++ 120 :: itoa c) ++ 91 :: (cellsT c xs xs.length ++ [93]) := by
  simp [matT]
theorem not_mem2 {c : UInt8} {n m : Int} {d : UInt8} (h1 : c ≠ 45) (h2 : c.toNat < 48 ∨ 57 < c.toNat) (h3 : c ≠ d) : c ∉ itoa n ++ d :: itoa m := fun h => by
  rcases List.mem_append.1 h with h | h
  · exact itoa_no h1 h2 h
  · rcases List.mem_cons.1 h with h | h
    · exact h3 h
    · exact itoa_no h1 h2 h
theorem cut_open (r c : Nat) (xs : List Int) : cut (matT r c xs) [91] = (itoa r ++ 120 :: itoa c, cellsT c xs xs.length ++ [93], true) := by
  rw [matT_head]
  exact cut_mid (not_mem2 (by decide) (by decide) (by decide))
theorem cut_x (r c : Nat) : cut (itoa r ++ 120 :: itoa c) [120] = (itoa r, itoa c, true) := cut_mid (itoa_no (by decide) (by decide))
/-- The reference's marks. -/
def mk5 (b : UInt8) : Bool := b == 120 || b == 91 || b == 93 || b == 59 || b == 32
theorem mk5_itoa (n : Int) : ∀ b ∈ itoa n, mk5 b = false := by
  intro b h
  rcases itoa_bytes n b h with rfl | ⟨h1, h2⟩
  · rfl
  · have : ∀ k : UInt8, (k.toNat < 48 ∨ 57 < k.toNat) → (b == k) = false := fun k hk => by
      rw [beq_eq_false_iff_ne]
      rintro rfl
      omega
    simp [mk5, this 120 (by decide), this 91 (by decide), this 93 (by decide), this 59 (by decide), this 32 (by decide)]
theorem split_mat (r c : Nat) (xs : List Int) : splitF mk5 [] (matT r c xs) = itoa r :: itoa c :: (if xs = [] then [[], []] else xs.map itoa ++ [[]]) := by
  rw [matT_head, List.append_assoc, List.cons_append, splitF_mid _ _ _ _ (mk5_itoa _) rfl, splitF_mid _ _ _ _ (mk5_itoa _) rfl]
  by_cases h : xs = []
  · subst h; rw [if_pos rfl]; rfl
  · rw [if_neg h, splitF_allc c xs rfl rfl mk5_itoa rfl (List.length_pos_iff.2 h)]
    simp
/-- The program's marks. -/
def mk2 (b : UInt8) : Bool := b == 32 || b == 59
theorem mk2_itoa (n : Int) : ∀ b ∈ itoa n, mk2 b = false := by
  intro b h
  have := mk5_itoa n b h
  simp [mk5] at this
  simp [mk2, this]
theorem filter_itoa (xs : List Int) : (xs.map itoa).filter (fun t => !t.isEmpty) = xs.map itoa := by
  rw [List.filter_eq_self]
  intro t h
  obtain ⟨x, _, rfl⟩ := List.mem_map.1 h
  cases hx : itoa x with
  | nil => exact absurd hx (itoa_ne x)
  | cons _ _ => rfl
theorem fields_mat {p : Nat → Bool} (hp : ∀ b : UInt8, mk2 b = p b.toNat) (c : Nat) (xs : List Int) (h : 0 < xs.length) :
    (goFieldsP p ⟨(cellsT c xs xs.length).toArray⟩).map (fun x => x.data.toList) = xs.map itoa := by
  rw [fields_ascii hp _ (fun b hb => by
    rcases cellsT_bytes c xs _ b hb with rfl | rfl | rfl | h
    · decide
    · decide
    · decide
    · omega), splitF_all c xs rfl rfl mk2_itoa h, filter_itoa]
theorem cellsT_nil (c : Nat) (xs : List Int) (h : 0 < xs.length) : cellsT c xs xs.length ≠ [] := fun e => by
  have := splitF_all c xs (q := mk2) rfl rfl mk2_itoa h
  rw [e] at this
  simp only [splitF] at this
  have h2 := filter_itoa xs
  rw [← this] at h2
  simp at h2
end Go.Proofs.YtkaiekhmcjojoaaDoor
