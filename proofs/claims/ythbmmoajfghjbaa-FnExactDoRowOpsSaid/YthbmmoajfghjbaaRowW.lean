/- The walks of RowOf. -/
import Derived.Test.YthbmmoajfghjbaaIsMatW
import Derived.Test.YthbmmoajfghjbaaOwnW
import Derived.Test.YthbmmoajfghjbaaAppW
import Derived.WalkLawsBesides
namespace Go.Proofs.Ythbmmoajfghjbaa
open Go.RowKit
set_option linter.unusedSimpArgs false
set_option linter.unusedVariables false

def rowOk (r c : Int) (xs : List Int) (i : Int) : Bool := isMat r c xs && decide (0 ≤ i ∧ i < r)
def rowL (r c : Int) (xs : List Int) (i : Int) : List Int := if rowOk r c xs i = true then (xs.drop (i * c).toNat).take c.toNat else []
/-- What a function gives that returns a list of its own and whether there is one. -/
def RetList (w : World) (XS : List Int) (ok : Bool) (e : Ending) (w' : World) : Prop :=
  ∃ s, e = .returned (.tuple #[s, .bool ok]) ∧ Own w' w.heap.size s XS ∧ Below w.heap.size w w'
theorem row_at {r c i : Int} {xs : List Int} (hm : isMat r c xs = true) (h : 0 ≤ i ∧ i < r) :
    ∃ a b : Nat, i * c = (a : Int) ∧ (i + 1) * c = ((a + b : Nat) : Int) ∧ c = (b : Int) ∧ a + b ≤ xs.length ∧ rowL r c xs i = (xs.drop a).take b ∧ b ≤ 24 := by
  obtain ⟨h1, h2, h3, h4, h5, _, h6⟩ := isMat_t hm
  have h7 : 0 ≤ i * c := Int.mul_nonneg h.1 h3
  have h8 : (i + 1) * c ≤ r * c := Int.mul_le_mul_of_nonneg_right (by omega) h3
  have h9 : (i + 1) * c = i * c + c := by rw [Int.add_mul, Int.one_mul]
  refine ⟨(i * c).toNat, c.toNat, by omega, by omega, by omega, by omega, ?_, by omega⟩
  have : rowOk r c xs i = true := by simp only [rowOk, hm, decide_eq_true h, Bool.and_self]
  simp only [rowL, this, if_true]
theorem row_no1 {r c i : Int} {xs : List Int} (h : isMat r c xs = false) : rowOk r c xs i = false ∧ rowL r c xs i = [] := by
  have : rowOk r c xs i = false := by simp [rowOk, h]
  exact ⟨this, by simp [rowL, this]⟩
theorem row_no2 {r c i : Int} {xs : List Int} (h : ¬ (0 ≤ i ∧ i < r)) : rowOk r c xs i = false ∧ rowL r c xs i = [] := by
  have : rowOk r c xs i = false := by simp only [rowOk, decide_eq_false h, Bool.and_false]
  exact ⟨this, by simp [rowL, this]⟩
theorem row_yes {r c i : Int} {xs : List Int} (hm : isMat r c xs = true) (h : 0 ≤ i ∧ i < r) : rowOk r c xs i = true := by
  simp only [rowOk, hm, decide_eq_true h, Bool.and_self]

/-- The literal of an empty slice owns nothing. -/
theorem own_empty (w : World) : Own (w.alloc (.cells #[] 3)) w.heap.size (.slice (some ⟨w.heap.size, 0, none⟩) 0 0) [] := by
  have := World.ownsRow_lit (base := w.heap.size) (e := 3) (size := 1) w #[] 0 (Nat.le_refl _) (by simp [maxLen]) rfl
  simpa [Own, iv] using this
theorem cut_sl {w : World} {A : Option Addr} {n cap a b : Nat} {xs : List Int} (h : Sl w A n cap xs) (hab : a + b ≤ xs.length) : Sl w (if cap = a then A else A.map (·.add a)) b (cap - a) ((xs.drop a).take b) := by
  obtain ⟨_, h1, h2, h3, h4⟩ := h
  have hl : ((xs.drop a).take b).length = b := by simp; omega
  refine ⟨hl.symm, by omega, by omega, ?_, ?_⟩
  · intro e
    by_cases hc : cap = a
    · omega
    · rw [if_neg hc] at e
      cases A with
      | none => have := h3 rfl; omega
      | some ad => simp at e
  · intro hp
    rw [hl] at hp
    obtain ⟨g, off, rfl, hc⟩ := h4 (by omega)
    refine ⟨g, off + a, ?_, fun i hi => ?_⟩
    · rw [if_neg (by omega)]
      simp [addr_add]
    · rw [hl] at hi
      have := hc (a + i) (by omega)
      rw [Nat.add_assoc, this]
      simp [List.getD, List.getElem?_take, List.getElem?_drop, hi]

set_option maxHeartbeats 1000000 in
theorem implRow (r c i : Int) (a b : Nat) (A A' : Option Addr) (cap c' : Nat) (xs : List Int) (w : World) (ha : Hid (i * c = (a : Int))) (hb : Hid ((i + 1) * c = ((a + b : Nat) : Int))) (hab : a + b ≤ xs.length) (hn : xs.length ≤ 1048576) (hc : xs.length ≤ cap) (hcm : cap ≤ maxLen) (i0 : 0 ≤ i) (i1 : i ≤ 1048576)
    (hA' : Hid ((if cap = a then A else A.map (·.add a)) = A')) (hc' : Hid (cap - a = c')) :
    Calls Try.prog 51 #[mv r c (.slice A xs.length cap), .int .i64 i] w fun e w' => e = .returned (.slice A' b c') ∧ Below w.heap.size w w' := by
  have e1 := ha.out
  have e2 := hb.out
  unfold maxLen at hcm
  by_cases hca : cap = a
  · have HF : Hid (A = A') := by have := hA'.out; rwa [if_pos hca] at this
    have HC : Hid (c' = 0) := by have := hc'.out; rw [Hid]; omega
    subst hca
    go_enter Try.func51, Try.ntmps51
    go_wp2
    go_returns
    exact ⟨by rw [HC.out, ← HF.out]; simp, (by repeat' (first | exact Below.refl _ _ | (refine Below.alloc ?_ ?_ _) | (refine Below.setCell ?_ ?_ _) | (refine Below.drew ?_) | (refine below_drewN ?_ _) | (refine Below.trans ?_ (Below.mono (by assumption) ?_)) | omega | (simp only [World.size_alloc, World.size_setCell, World.size_drew, size_drewN]; omega)))⟩
  · have HF : Hid (A.map (·.add a) = A') := by have := hA'.out; rwa [if_neg hca] at this
    have HC := hide hc'.out
    go_enter Try.func51, Try.ntmps51
    go_wp2
    go_returns
    exact ⟨by rw [← HC.out, ← HF.out]; show Ending.returned (Value.slice _ (a + b - a) _) = _; rw [Nat.add_sub_cancel_left], (by repeat' (first | exact Below.refl _ _ | (refine Below.alloc ?_ ?_ _) | (refine Below.setCell ?_ ?_ _) | (refine Below.drew ?_) | (refine below_drewN ?_ _) | (refine Below.trans ?_ (Below.mono (by assumption) ?_)) | omega | (simp only [World.size_alloc, World.size_setCell, World.size_drew, size_drewN]; omega)))⟩

end Go.Proofs.Ythbmmoajfghjbaa
