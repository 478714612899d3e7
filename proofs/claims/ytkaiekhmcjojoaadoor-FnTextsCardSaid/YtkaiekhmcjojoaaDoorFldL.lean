/- strings.FieldsFunc on texts of plain bytes: a plain law. -/
import Derived.Test.YtkaiekhmcjojoaaDoorCutL
import Derived.Lib.FieldsP
import Derived.Laws.RangeString
namespace Go.Proofs.YtkaiekhmcjojoaaDoor
open Go.RowKit
set_option linter.unusedSimpArgs false
set_option linter.unusedVariables false
open Go.Lib
theorem piece_get (s : ByteArray) (a b : Nat) (ha : a ≤ b) (hb : b < s.size) : (s.extract a (b + 1)).data.toList = (s.extract a b).data.toList ++ [s[b]'hb] := by
  have hb2 : b < s.data.toList.length := by simpa using hb
  simp only [ByteArray.data_extract, Array.toList_extract, List.extract_eq_take_drop]
  rw [show b + 1 - a = (b - a) + 1 by omega, List.take_succ_eq_append_getElem (by rw [List.length_drop]; omega), List.getElem_drop]
  congr 2
  simp only [show a + (b - a) = b by omega]
  rfl
def curOf (s : ByteArray) (pos : Nat) : Option Nat → List UInt8
  | some a => (s.extract a pos).data.toList
  | none => []
theorem drop_at (s : ByteArray) (pos : Nat) (h : pos < s.size) : s.data.toList.drop pos = (s[pos]'h) :: s.data.toList.drop (pos + 1) := by
  rw [List.drop_eq_getElem_cons (by simpa using h)]
  rfl
theorem end_some {q : UInt8 → Bool} (s : ByteArray) (a : Nat) (acc : List (Nat × Nat)) (h : a < s.size) :
    ((closeSpans s (acc, some a)).map fun x => (s.extract x.1 x.2).data.toList) = (acc.map fun x => (s.extract x.1 x.2).data.toList) ++ (splitF q (curOf s s.size (some a)) []).filter (fun t => !t.isEmpty) := by
  have hne : (s.extract a s.size).data.toList.isEmpty = false := by
    cases hh : (s.extract a s.size).data.toList with
    | nil => have := congrArg List.length hh; simp at this; omega
    | cons x r => rfl
  rw [show closeSpans s (acc, some a) = acc ++ [(a, s.size)] from rfl, List.map_append, splitF, List.filter_cons, show curOf s s.size (some a) = (s.extract a s.size).data.toList from rfl, hne]
  rfl
theorem fields_from {p : Nat → Bool} {q : UInt8 → Bool} (hq : ∀ b, q b = p b.toNat) (s : ByteArray) (hs : ∀ i (h : i < s.size), (s[i]'h).toNat < 128) : ∀ (f pos : Nat) (st : Option Nat) (acc : List (Nat × Nat)),
    s.size - pos ≤ f → pos ≤ s.size → (∀ a, st = some a → a < pos) →
    ((closeSpans s (spansFromP p s f pos st acc)).map fun x => (s.extract x.1 x.2).data.toList) = (acc.map fun x => (s.extract x.1 x.2).data.toList) ++ (splitF q (curOf s pos st) (s.data.toList.drop pos)).filter (fun t => !t.isEmpty) := by
  intro f
  induction f with
  | zero =>
    intro pos st acc hf hp hst
    have hpe : pos = s.size := by omega
    subst hpe
    rw [spansFromP_end _ _ _ _ _ _ (by omega), List.drop_of_length_le (by simp)]
    cases st with
    | none => simp [closeSpans, splitF, curOf]
    | some a => exact end_some s a acc (hst a rfl)
  | succ f ih =>
    intro pos st acc hf hp hst
    by_cases hlt : pos < s.size
    · have hb := hs pos hlt
      have hd := decode_ascii s pos hlt hb
      rw [drop_at s pos hlt]
      unfold spansFromP
      rw [if_pos hlt, hd]
      simp only []
      rw [splitF, hq]
      by_cases hpp : p (s[pos]'hlt).toNat = true
      · rw [if_pos hpp, if_pos hpp]
        cases st with
        | none =>
          simp only []
          rw [ih (pos + 1) none acc (by omega) (by omega) (fun a e => by cases e)]
          simp [curOf]
        | some a =>
          have ha := hst a rfl
          simp only []
          rw [ih (pos + 1) none _ (by omega) (by omega) (fun a e => by cases e)]
          have hne : (s.extract a pos).data.toList.isEmpty = false := by
            cases hh : (s.extract a pos).data.toList with
            | nil => have := congrArg List.length hh; simp at this; omega
            | cons x r => rfl
          rw [List.filter_cons, show curOf s pos (some a) = (s.extract a pos).data.toList from rfl, hne]
          simp [curOf]
      · rw [if_neg hpp, if_neg hpp]
        cases st with
        | none =>
          simp only []
          rw [ih (pos + 1) (some pos) acc (by omega) (by omega) (fun a e => by injection e; omega)]
          rw [show curOf s (pos + 1) (some pos) = curOf s pos none ++ [s[pos]'hlt] by
            rw [curOf, piece_get s pos pos (Nat.le_refl _) hlt]
            simp [curOf]]
        | some a =>
          have ha := hst a rfl
          simp only []
          rw [ih (pos + 1) (some a) acc (by omega) (by omega) (fun a e => by injection e; omega)]
          rw [show curOf s (pos + 1) (some a) = curOf s pos (some a) ++ [s[pos]'hlt] from piece_get s a pos (by omega) hlt]
    · have hpe : pos = s.size := by omega
      subst hpe
      rw [spansFromP_end _ _ _ _ _ _ (by omega), List.drop_of_length_le (by simp)]
      cases st with
      | none => simp [closeSpans, splitF, curOf]
      | some a => exact end_some s a acc (hst a rfl)
theorem fields_ascii {p : Nat → Bool} {q : UInt8 → Bool} (hq : ∀ b, q b = p b.toNat) (l : List UInt8) (hs : ∀ b ∈ l, b.toNat < 128) :
    (goFieldsP p ⟨l.toArray⟩).map (fun x => x.data.toList) = (splitF q [] l).filter (fun t => !t.isEmpty) := by
  have := fields_from hq (⟨l.toArray⟩ : ByteArray) (fun i h => by
    refine hs _ ?_
    have : i < l.length := h
    have e : (⟨l.toArray⟩ : ByteArray)[i]'h = l[i] := rfl
    rw [e]
    exact List.getElem_mem _) (ByteArray.size ⟨l.toArray⟩) 0 none [] (by omega) (by omega) (fun a e => by cases e)
  rw [goFieldsP, spansOfP, List.map_map]
  exact this
end Go.Proofs.YtkaiekhmcjojoaaDoor
