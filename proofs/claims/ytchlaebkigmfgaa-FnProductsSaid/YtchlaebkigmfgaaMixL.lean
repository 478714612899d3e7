/- What mix draws: plain law. -/
import Derived.Test.YtchlaebkigmfgaaDoEx
import Derived.Test.YtchlaebkigmfgaaIdW
namespace Go.Proofs.Ytchlaebkigmfgaa
open Go.RowKit
set_option linter.unusedSimpArgs false
set_option linter.unusedVariables false
theorem idTo_ofM (n : Nat) : ∀ k, k ≤ n → idTo n k = ofM n n (fun i j => if i = j ∧ i < k then 1 else 0) := by
  intro k
  induction k with
  | zero =>
    intro _
    rw [idTo, tab_zeros, ofM]
    exact tab_congr fun p _ => by simp
  | succ k ih =>
    intro hk
    rw [idTo, ih (by omega)]
    refine tab_set (fun _ => ?_) (fun p hp hne => ?_)
    · show (if (k * n + k) / n = (k * n + k) % n ∧ (k * n + k) / n < k + 1 then (1 : Int) else 0) = 1
      rw [ix_div (by omega), ix_mod (by omega), if_pos ⟨rfl, by omega⟩]
    · have h := ix_of hp
      show (if p / n = p % n ∧ p / n < k + 1 then (1 : Int) else 0) = if p / n = p % n ∧ p / n < k then 1 else 0
      by_cases e : p / n = p % n ∧ p / n < k + 1
      · by_cases e2 : p / n = k
        · exfalso
          have h3 := h.2.2
          rw [← e.1, e2] at h3
          exact hne h3.symm
        · rw [if_pos e, if_pos ⟨e.1, by omega⟩]
      · rw [if_neg e, if_neg (fun x => e ⟨x.1, by omega⟩)]
theorem id_ofM (n : Nat) : idTo n n = ofM n n Det.one := by
  rw [idTo_ofM n n (Nat.le_refl _)]
  refine ofM_congr fun i j hi hj => ?_
  show _ = if i = j then _ else _
  by_cases e : i = j
  · rw [if_pos e, if_pos ⟨e, hi⟩]
  · rw [if_neg e, if_neg (fun x => e x.1)]
theorem id_isMat {n : Nat} (h : n ≤ 24) : isMat n n (idTo n n) = true := by
  rw [id_ofM]
  refine isMat_ofM.2 ⟨h, h, fun i j _ _ => ?_⟩
  show isNum (if i = j then 1 else 0) = true
  split <;> decide
theorem det_id (n : Nat) : Det.det n (toM n (idTo n n)) = 1 := by
  rw [← Det.det_one n, id_ofM]
  exact Det.det_congr fun i j hi hj => toM_ofM _ hi hj
/-- What mix draws. -/
def MixP (n : Nat) (r c : Int) (zs : List Int) : Prop := (r = n ∧ c = n ∧ isMat n n zs = true ∧ Det.det n (toM n zs) = 1) ∨ (r = 0 ∧ c = 0 ∧ zs = [] ∧ n ≠ 0)
theorem mixP_len {n : Nat} {r c : Int} {zs : List Int} (h : MixP n r c zs) : zs.length ≤ 576 := by
  rcases h with ⟨rfl, rfl, h, _⟩ | ⟨_, _, rfl, _⟩
  · exact (isMat_t h).2.2.2.2.2.2
  · simp
theorem mixP_r {n : Nat} {r c : Int} {zs : List Int} (h : MixP n r c zs) : 0 ≤ r ∧ r ≤ n := by
  rcases h with ⟨h, _⟩ | ⟨h, _⟩ <;> omega
theorem mix_start {n : Nat} (h : n ≤ 24) : MixP n n n (idTo n n) := .inl ⟨rfl, rfl, id_isMat h, det_id n⟩
theorem mix_step {n : Nat} {r c : Int} {zs : List Int} (h : MixP n r c zs) (hn : 1 < n) {I J : Nat} (hI : I < n) (hJ : J < n) (hIJ : I ≠ J) (t : Int) :
    MixP n (opRes r c zs 2 I J t).R (opRes r c zs 2 I J t).C (opRes r c zs 2 I J t).L := by
  unfold opRes
  split
  · rename_i hh
    simp only [Bool.and_eq_true, opIn] at hh
    obtain ⟨⟨hm, ho⟩, hg⟩ := hh
    rcases h with ⟨rfl, rfl, hz, hd⟩ | ⟨rfl, rfl, rfl, _⟩
    · refine .inl ⟨rfl, rfl, ?_, ?_⟩
      · exact (dL_ok (k := 2) (i := I) (j := J) hz ho hg).2
      · rw [← hd, ← (Det.det_alt n).added (toM n zs) I J t hI hJ hIJ]
        refine Det.det_congr fun a b ha hb => ?_
        show toM n (opL n n 2 I J t zs) a b = _
        rw [opL, toM_ofM _ ha hb, opNew_two, Det.setRow]
        by_cases e : a = I
        · rw [if_pos e, if_pos e, Int.mul_comm t]
        · rw [if_neg e, if_neg e]
    · exfalso
      simp only [isRowOp, Bool.and_eq_true, decide_eq_true_eq] at ho
      omega
  · exact .inr ⟨rfl, rfl, rfl, by omega⟩
end Go.Proofs.Ytchlaebkigmfgaa
