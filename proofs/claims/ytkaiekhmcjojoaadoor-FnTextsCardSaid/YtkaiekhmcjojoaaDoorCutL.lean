/- Texts cut at one byte: plain laws. -/
import Derived.Test.YtkaiekhmcjojoaaDoorPrsL
import Derived.Lib.IndexMore
namespace Go.Proofs.YtkaiekhmcjojoaaDoor
open Go.RowKit
set_option linter.unusedSimpArgs false
set_option linter.unusedVariables false
open Go.Lib
theorem indexByte_no {l : List UInt8} {c : UInt8} (h : c ∉ l) : index l [c] = -1 := by
  refine index_none fun j _ => ?_
  cases ho : occAt l [c] j with
  | false => rfl
  | true =>
    exfalso
    simp only [occAt] at ho
    cases hd : l.drop j with
    | nil => rw [hd] at ho; simp at ho
    | cons b r =>
      rw [hd] at ho
      have : c = b := by simpa using ho
      subst this
      exact h (List.mem_of_mem_drop (by rw [hd]; simp))
theorem index_mid {a b : List UInt8} {c : UInt8} (h : c ∉ a) : index (a ++ c :: b) [c] = (a.length : Int) := by
  refine index_first (i := a.length) (by simp) (by simp [occAt]) fun j hj => ?_
  cases ho : occAt (a ++ c :: b) [c] j with
  | false => rfl
  | true =>
    exfalso
    simp only [occAt] at ho
    rw [List.drop_append_of_le_length (by omega)] at ho
    cases hd : a.drop j with
    | nil => have := congrArg List.length hd; simp at this; omega
    | cons x r =>
      rw [hd] at ho
      have : c = x := by simpa using ho
      subst this
      exact h (List.mem_of_mem_drop (by rw [hd]; simp))
theorem cut_no {l : List UInt8} {c : UInt8} (h : c ∉ l) : cut l [c] = (l, [], false) := by
  rw [cut, indexByte_no h, if_neg (by decide)]
theorem cut_mid {a b : List UInt8} {c : UInt8} (h : c ∉ a) : cut (a ++ c :: b) [c] = (a, b, true) := by
  rw [cut, index_mid h, if_pos (by omega)]
  simp
theorem itoa_bytes (n : Int) : ∀ b ∈ itoa n, b = 45 ∨ (48 ≤ b.toNat ∧ b.toNat ≤ 57) := by
  intro b hb
  rcases itoa_cases n with ⟨_, e⟩ | ⟨_, e⟩
  · rw [e] at hb
    rcases List.mem_cons.1 hb with rfl | hb
    · exact .inl rfl
    · exact .inr (digits_dig _ _ hb)
  · rw [e] at hb
    exact .inr (digits_dig _ _ hb)
theorem itoa_no {n : Int} {c : UInt8} (h1 : c ≠ 45) (h2 : c.toNat < 48 ∨ 57 < c.toNat) : c ∉ itoa n := fun h => by
  rcases itoa_bytes n c h with e | e
  · exact h1 e
  · omega
theorem itoa_ne (n : Int) : itoa n ≠ [] := fun e => by
  rcases itoa_cases n with ⟨_, h⟩ | ⟨_, h⟩
  · rw [h] at e; cases e
  · rw [h] at e; exact decDigits_ne _ e
/-- The pieces between the marked bytes. -/
def splitF (p : UInt8 → Bool) (cur : List UInt8) : List UInt8 → List (List UInt8)
  | [] => [cur]
  | b :: r => if p b then cur :: splitF p [] r else splitF p (cur ++ [b]) r
theorem splitF_no {p : UInt8 → Bool} : ∀ (a cur : List UInt8), (∀ b ∈ a, p b = false) → splitF p cur a = [cur ++ a]
  | [], cur, _ => by simp [splitF]
  | b :: r, cur, h => by
    rw [splitF, h b (by simp), if_neg (by decide), splitF_no r _ (fun x hx => h x (by simp [hx]))]
    simp
theorem splitF_mid {p : UInt8 → Bool} : ∀ (a cur r : List UInt8) (c : UInt8), (∀ b ∈ a, p b = false) → p c = true → splitF p cur (a ++ c :: r) = (cur ++ a) :: splitF p [] r
  | [], cur, r, c, _, hc => by simp [splitF, hc]
  | b :: a, cur, r, c, h, hc => by
    rw [List.cons_append, splitF, h b (by simp), if_neg (by decide), splitF_mid a _ r c (fun x hx => h x (by simp [hx])) hc]
    simp
end Go.Proofs.YtkaiekhmcjojoaaDoor
