/- The walks of CellOf. -/
import Derived.Test.YtchlaebkigmfgaaIsMatW
namespace Go.Proofs.Ytchlaebkigmfgaa
open Go.RowKit
set_option linter.unusedSimpArgs false
set_option linter.unusedVariables false

def cellIn (r c : Int) (xs : List Int) (i j : Int) : Bool := isMat r c xs && decide (0 ≤ i ∧ i < r ∧ 0 ≤ j ∧ j < c)
def cellOf (r c : Int) (xs : List Int) (i j : Int) : Int := if cellIn r c xs i j = true then xs.getD (i * c + j).toNat 0 else 0
theorem cell_no1 {r c i j : Int} {xs : List Int} (h : isMat r c xs = false) : cellOf r c xs i j = 0 := by simp [cellOf, cellIn, h]
theorem cell_no2 {r c i j : Int} {xs : List Int} (h : ¬ (0 ≤ i ∧ i < r ∧ 0 ≤ j ∧ j < c)) : cellOf r c xs i j = 0 := by
  simp only [cellOf, cellIn, decide_eq_false h, Bool.and_false, Bool.false_eq_true, if_false]
/-- Where a cell lies: its number, and that it is there. -/
theorem cell_at {r c i j : Int} {xs : List Int} (hm : isMat r c xs = true) (h : 0 ≤ i ∧ i < r ∧ 0 ≤ j ∧ j < c) :
    ∃ k : Nat, i * c + j = (k : Int) ∧ k < xs.length ∧ cellOf r c xs i j = xs.getD k 0 ∧ i * c = (k : Int) - j ∧ 0 ≤ i * c ∧ i * c ≤ 576 := by
  obtain ⟨h1, h2, h3, h4, h5, _, h6⟩ := isMat_t hm
  obtain ⟨g1, g2, g3, g4⟩ := h
  have h7 : 0 ≤ i * c := Int.mul_nonneg g1 h3
  have h8 : (i + 1) * c ≤ r * c := Int.mul_le_mul_of_nonneg_right (by omega) h3
  have h9 : (i + 1) * c = i * c + c := by rw [Int.add_mul, Int.one_mul]
  refine ⟨(i * c + j).toNat, by omega, by omega, ?_, by omega, h7, by omega⟩
  simp only [cellOf, cellIn, hm, decide_eq_true (show 0 ≤ i ∧ i < r ∧ 0 ≤ j ∧ j < c from ⟨g1, g2, g3, g4⟩), Bool.and_self, if_true]

/-- The program's own look at a cell that is there. -/
theorem implAt (r c i j : Int) (k : Nat) (x : Int) (A : Option Addr) (cap : Nat) (xs : List Int) (w : World) (hA : SlI w A xs) (hn : xs.length ≤ 1048576)
    (hk : Hid (i * c = (k : Int) - j)) (hlt : k < xs.length) (hx : Hid (xs.getD k 0 = x)) (h0 : 0 ≤ i * c) (h1 : i * c ≤ 1048576) (j0 : 0 ≤ j) (j1 : j ≤ 1048576) :
    Calls Try.prog 52 #[mv r c (.slice A xs.length cap), .int .i64 i, .int .i64 j] w fun e w' => e = .returned (.int .i64 x) ∧ Below w.heap.size w w' := by
  obtain ⟨g, off, rfl, hc⟩ := hA (by omega)
  have hcx := hc k hlt
  rw [hx.out] at hcx
  have hgb : g < w.heap.size := World.block_lt_of_cell? _ _ hcx
  clear hc
  have hik : i * c + j = (k : Int) := by have := hk.out; omega
  go_enter Try.func52, Try.ntmps52
  go_wp2
  go_returns
  exact ⟨rfl, (by repeat' (first | exact Below.refl _ _ | (refine Below.alloc ?_ ?_ _) | (refine Below.setCell ?_ ?_ _) | (refine Below.drew ?_) | (refine below_drewN ?_ _) | (refine Below.trans ?_ (Below.mono (by assumption) ?_)) | omega | (simp only [World.size_alloc, World.size_setCell, World.size_drew, size_drewN]; omega)))⟩


end Go.Proofs.Ytchlaebkigmfgaa
