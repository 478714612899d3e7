/- ParseMatrix: what is read, as plain functions. -/
import Derived.Test.YtkaiekhmcjojoaaDoorPmxH
import Derived.Test.YtkaiekhmcjojoaaDoorPrtS
import Derived.Test.YtkaiekhmcjojoaaDoorCrossL
import Derived.Test.YtkaiekhmcjojoaaDoorRowLib
namespace Go.Proofs.YtkaiekhmcjojoaaDoor
open Go.RowKit
set_option linter.unusedSimpArgs false
set_option linter.unusedVariables false
abbrev PmR := Int × Int × List Int × Bool
def pm0 : PmR := (0, 0, [], false)
def RetX (w : World) (p : PmR) (e : Ending) (w' : World) : Prop := ∃ s, e = .returned (.tuple #[mv p.1 p.2.1 s, .bool p.2.2.2]) ∧ Own w' w.heap.size s p.2.2.1 ∧ Below w.heap.size w w'
/-- The numbers whose texts these are. -/
def allI : List (List UInt8) → Option (List Int)
  | [] => some []
  | t :: r => match parseI t, allI r with
    | some n, some xs => some (n :: xs)
    | _, _ => none
theorem allI_snoc {t : List UInt8} {n : Int} (ht : parseI t = some n) : ∀ {a : List (List UInt8)} {xs : List Int}, allI a = some xs → allI (a ++ [t]) = some (xs ++ [n])
  | [], xs, h => by
    simp only [allI, Option.some.injEq] at h; subst h
    simp [allI, ht]
  | u :: a, xs, h => by
    simp only [allI] at h
    cases hu : parseI u with
    | none => rw [hu] at h; simp at h
    | some m =>
      cases ha : allI a with
      | none => rw [hu, ha] at h; simp at h
      | some ys =>
        rw [hu, ha] at h
        simp only [Option.some.injEq] at h
        subst h
        simp only [List.cons_append, allI, hu, allI_snoc ht ha]
theorem allI_none {t : List UInt8} (ht : parseI t = none) : ∀ {a b : List (List UInt8)}, allI (a ++ t :: b) = none
  | [], b => by simp [allI, ht]
  | u :: a, b => by
    simp only [List.cons_append, allI, allI_none ht (a := a) (b := b)]
    cases parseI u <;> rfl
theorem allI_step {ts : List (List UInt8)} {k : Nat} {xs : List Int} {n : Int} (hk : k < ts.length) (h : allI (ts.take k) = some xs) (ht : parseI (ts.getD k []) = some n) : allI (ts.take (k + 1)) = some (xs ++ [n]) := by
  rw [List.take_succ_eq_append_getElem hk]
  refine allI_snoc ?_ h
  simpa [List.getD, hk] using ht
theorem allI_bad {ts : List (List UInt8)} {k : Nat} (hk : k < ts.length) (ht : parseI (ts.getD k []) = none) : allI ts = none := by
  have := allI_none (t := ts.getD k []) ht (a := ts.take k) (b := ts.drop (k + 1))
  rwa [show ts.getD k [] = ts[k] by simp [List.getD, hk], ← List.drop_eq_getElem_cons hk, List.take_append_drop] at this
def pmF (l : List UInt8) (r c : Int) (xs : List Int) : PmR := if isMat r c xs = true ∧ fmtM r c xs = l then (r, c, xs, true) else pm0
def pmB (l : List UInt8) (r c : Int) : Option (List Int) → PmR
  | some xs => pmF l r c xs
  | none => pm0
def bodyT (b : List UInt8) : List (List UInt8) := if b.take (b.length - 1) = [] then [] else fldT (b.take (b.length - 1))
def pmC (l b1 : List UInt8) (ok1 ok2 : Bool) (a b : Option Int) : PmR :=
  if ok1 = true ∧ ok2 = true ∧ a.isSome = true ∧ b.isSome = true ∧ endsB b1 = true then pmB l (a.getD 0) (b.getD 0) (allI (bodyT b1)) else pm0
/-- What the program reads. -/
def pmI (l : List UInt8) : PmR :=
  if 8000 < l.length then pm0 else
  pmC l (Lib.cut l [91]).2.1 (Lib.cut l [91]).2.2 (Lib.cut (Lib.cut l [91]).1 [120]).2.2 (parseI (Lib.cut (Lib.cut l [91]).1 [120]).1) (parseI (Lib.cut (Lib.cut l [91]).1 [120]).2.1)
theorem splitF_all_le {p : UInt8 → Bool} (l : List UInt8) : ∀ t ∈ splitF p [] l, t.length ≤ l.length := fun t h => by
  have := splitF_len l [] t h; simpa using this
theorem goFields_len (l : List UInt8) : ∀ t ∈ fldT l, t.length ≤ l.length := by
  intro t h
  obtain ⟨x, hx, rfl⟩ := List.mem_map.1 h
  obtain ⟨⟨a, b⟩, _, rfl⟩ := List.mem_map.1 hx
  simp only [ByteArray.data_extract, Array.toList_extract, List.extract_eq_take_drop, List.length_take, List.length_drop]
  show _ ≤ _
  have : (⟨l.toArray⟩ : ByteArray).data.toList.length = l.length := rfl
  omega
theorem spans_len {p : Nat → Bool} (s : ByteArray) : ∀ (f pos : Nat) (st : Option Nat) (acc : List (Nat × Nat)), (Lib.spansFromP p s f pos st acc).1.length ≤ acc.length + f
  | 0, pos, st, acc => by simp [Lib.spansFromP]
  | f + 1, pos, st, acc => by
    unfold Lib.spansFromP
    split
    · split
      · cases st with
        | none => have := spans_len s f (pos + (Utf8.decode s pos).2) none acc (p := p); simp only; omega
        | some a => have := spans_len s f (pos + (Utf8.decode s pos).2) none (acc ++ [(a, pos)]) (p := p); simp at this ⊢; omega
      · cases st with
        | none => have := spans_len s f (pos + (Utf8.decode s pos).2) (some pos) acc (p := p); simp only; omega
        | some a => have := spans_len s f (pos + (Utf8.decode s pos).2) (some a) acc (p := p); simp only; omega
    · simp
theorem fldT_count (l : List UInt8) : (fldT l).length ≤ l.length + 1 := by
  rw [fldT, List.length_map, Lib.goFieldsP, List.length_map, Lib.spansOfP]
  have h := spans_len (p := mkR) (⟨l.toArray⟩ : ByteArray) (ByteArray.size ⟨l.toArray⟩) 0 none []
  have h2 : (⟨l.toArray⟩ : ByteArray).size = l.length := rfl
  unfold Lib.closeSpans
  split
  · simp only [List.length_append, List.length_cons, List.length_nil] at h ⊢; omega
  · simp only [List.length_nil] at h; omega
end Go.Proofs.YtkaiekhmcjojoaaDoor
