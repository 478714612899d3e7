/- The walks of DoRowOp, the program's. -/
import Derived.Test.YtchlaebkigmfgaaOpR
import Derived.Test.YtchlaebkigmfgaaCopyW
namespace Go.Proofs.Ytchlaebkigmfgaa
open Go.RowKit
set_option linter.unusedSimpArgs false
set_option linter.unusedVariables false

def opIn (r c : Int) (xs : List Int) (k i j t : Int) : Bool := isMat r c xs && isRowOp k i j t r
def opRes (r c : Int) (xs : List Int) (k i j t : Int) : MRes := if (opIn r c xs k i j t && opGo k.toNat c.toNat i.toNat j.toNat t xs) = true then ⟨r, c, opL r.toNat c.toNat k.toNat i.toNat j.toNat t xs, true⟩ else .no
theorem DoRowOp_len {r c : Int} {xs : List Int} {k i j t : Int} : (opRes r c xs k i j t).L.length ≤ 1048576 := by
  unfold opRes
  split
  · rename_i h
    simp only [opIn, Bool.and_eq_true] at h
    obtain ⟨h1, h2, h3, h4, _⟩ := isMat_t h.1.1
    have hr : r.toNat ≤ 24 := by omega
    have hc : c.toNat ≤ 24 := by omega
    have : r.toNat * c.toNat ≤ 24 * 24 := Nat.mul_le_mul hr hc
    show (opL _ _ _ _ _ _ xs).length ≤ _
    rw [opL, ofM_length]; omega
  · exact Nat.zero_le _
theorem isRowOp_pos {k i j t r : Int} (h : isRowOp k i j t r = true) : 0 ≤ k ∧ 0 ≤ i ∧ 0 ≤ j ∧ k ≤ 2 := by
  simp only [isRowOp, Bool.and_eq_true, decide_eq_true_eq, Bool.or_eq_true] at h
  omega
end Go.Proofs.Ytchlaebkigmfgaa
