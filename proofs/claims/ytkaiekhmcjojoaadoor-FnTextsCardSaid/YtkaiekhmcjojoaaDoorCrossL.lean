/- The cells without a row and a column: plain laws; an append of one number. -/
import Derived.Test.YtkaiekhmcjojoaaDoorTab
import Derived.Test.YtkaiekhmcjojoaaDoorRes
import Derived.Maps.AppendAt
import Derived.Test.YtkaiekhmcjojoaaDoorIsMatW
namespace Go.Proofs.YtkaiekhmcjojoaaDoor
open Go.RowKit
set_option linter.unusedSimpArgs false
set_option linter.unusedVariables false

def b2n (p : Prop) [Decidable p] : Nat := if p then 1 else 0
def cnt (row col C i j : Nat) : Nat := (i - b2n (row < i)) * (C - 1) + (if i = row then 0 else j - b2n (col < j))
def crossF (C row col : Nat) (xs : List Int) : Nat → Int := fun p => Det.minor (toM C xs) row col (p / (C - 1)) (p % (C - 1))
def crossTo (C row col : Nat) (xs : List Int) (i j : Nat) : List Int := tab (cnt row col C i j) (crossF C row col xs)
theorem cross_start (C row col : Nat) (xs : List Int) : crossTo C row col xs 0 0 = [] := by
  have : cnt row col C 0 0 = 0 := by simp [cnt]
  rw [crossTo, this]; rfl
theorem cross_skip {C row col : Nat} {xs : List Int} {i j : Nat} (h : i = row ∨ j = col) : crossTo C row col xs i (j + 1) = crossTo C row col xs i j := by
  have : cnt row col C i (j + 1) = cnt row col C i j := by
    unfold cnt
    by_cases hi : i = row
    · rw [if_pos hi, if_pos hi]
    · rcases h with h | h
      · exact absurd h hi
      · subst h
        rw [if_neg hi, if_neg hi]
        simp [b2n]
  rw [crossTo, this]; rfl
theorem cross_step {C row col : Nat} {xs : List Int} {i j : Nat} (hi : i ≠ row) (hj : j ≠ col) (hjC : j < C) (hcol : col < C) : crossTo C row col xs i (j + 1) = crossTo C row col xs i j ++ [xs.getD (i * C + j) 0] := by
  obtain ⟨i', hi'⟩ : ∃ i', i - b2n (row < i) = i' := ⟨_, rfl⟩
  obtain ⟨j', hj'⟩ : ∃ j', j - b2n (col < j) = j' := ⟨_, rfl⟩
  have h1 : cnt row col C i j = i' * (C - 1) + j' := by unfold cnt; rw [if_neg hi, hi', hj']
  have h2 : cnt row col C i (j + 1) = i' * (C - 1) + j' + 1 := by
    unfold cnt
    rw [if_neg hi, hi', Nat.add_assoc]
    congr 1
    unfold b2n at hj' ⊢
    repeat' split at hj'
    all_goals split <;> omega
  have hjl : j' < C - 1 := by
    unfold b2n at hj'
    split at hj' <;> omega
  rw [crossTo, crossTo, h1, h2, tab_snoc]
  congr 2
  have hs1 : Det.skip row i' = i := by
    unfold b2n at hi'
    unfold Det.skip
    split at hi' <;> split <;> omega
  have hs2 : Det.skip col j' = j := by
    unfold b2n at hj'
    unfold Det.skip
    split at hj' <;> split <;> omega
  simp only [crossF, ix_div hjl, ix_mod hjl, Det.minor, hs1, hs2, toM]
theorem cross_row {C row col : Nat} {xs : List Int} {i : Nat} (hcol : col < C) : crossTo C row col xs i C = crossTo C row col xs (i + 1) 0 := by
  have : cnt row col C i C = cnt row col C (i + 1) 0 := by
    unfold cnt
    by_cases hi : i = row
    · subst hi
      simp [b2n]
    · rw [if_neg hi]
      have h1 : (if i + 1 = row then 0 else 0 - b2n (col < 0)) = 0 := by split <;> omega
      have h2 : C - b2n (col < C) = C - 1 := by simp [b2n, hcol]
      have h3 : i + 1 - b2n (row < i + 1) = i - b2n (row < i) + 1 := by unfold b2n; split <;> split <;> omega
      rw [h1, h2, h3, Nat.add_mul, Nat.one_mul, Nat.add_zero]
  rw [crossTo, this]; rfl
def crossL (R C row col : Nat) (xs : List Int) : List Int := ofM (R - 1) (C - 1) (Det.minor (toM C xs) row col)
theorem cross_end {R C row col : Nat} {xs : List Int} (hrow : row < R) : crossTo C row col xs R 0 = crossL R C row col xs := by
  have : cnt row col C R 0 = (R - 1) * (C - 1) := by
    unfold cnt
    rw [show (if R = row then 0 else 0 - b2n (col < 0)) = 0 from by split <;> omega]
    simp [b2n, hrow]
  rw [crossTo, this]; rfl
theorem cnt_le {row col C i j : Nat} (hC : C ≤ 24) (hi : i ≤ 24) (hj : j ≤ C) : cnt row col C i j ≤ 600 := by
  unfold cnt
  have h1 : (i - b2n (row < i)) * (C - 1) ≤ 24 * 23 := Nat.mul_le_mul (by omega) (by omega)
  have h2 : (if i = row then 0 else j - b2n (col < j)) ≤ 24 := by split <;> omega
  omega
theorem cross_len {row col C i j : Nat} {xs : List Int} (hC : C ≤ 24) (hi : i ≤ 24) (hj : j ≤ C) : (crossTo C row col xs i j).length ≤ 600 := by
  rw [crossTo, tab_length]; exact cnt_le hC hi hj

/-- One number is appended, out of a block of its own. -/
theorem wpList_append_one {w : World} {ops : Array Oper} {rest : List Oper} {o : Oper} {a : Act} {Q : Exit → Act → World → Prop} (hgd : o.guard = none) (s x : Operand)
    (ho : o.op = .call { callee := .builtin .append, args := #[s, x], argTypes := #[28, 28] })
    (v : Value) (lo : Nat) (xs : List Int) (hs : a.eval s = v) (hown : Own w lo v xs)
    (b : Nat) (y : Int) (hx : a.eval x = .slice (some ⟨b, 0, none⟩) 1 1) (hc : w.cell? ⟨b, 0, none⟩ = some (.int .i64 y)) (hlen : xs.length + 1 ≤ 1048576) (hlo : lo ≤ w.heap.size)
    (h : ∀ v' w', Own w' lo v' (xs ++ [y]) → w.grownBy w' v.ownBlock → (v'.ownBlock = v.ownBlock ∨ v'.ownBlock = some w.heap.size) → wpList Tryd.prog ops Q rest (a.put o.dst v') w') : wpList Tryd.prog ops Q (o :: rest) a w := by
  obtain ⟨i0, hi, hz0, hz1, hz2⟩ := info_parts int_info
  refine wpList_append_own_at w hgd s x 28 ho lo 3 i0 (.int .i64 0) 1 8 Tryd.underlying28 hi hz0 hz1 hz2 rfl (by decide) v xs.length (iv xs) hs hown ⟨b, 0, none⟩ 1 1 [.int .i64 y] hx rfl ?_ (by simp [Value.oneCell']) (by simp only [maxLen]; omega) (by omega) hlo ?_
  · intro j u hj
    cases j with
    | zero => simp at hj; subst hj; exact hc
    | succ j => simp at hj
  · intro v' w' ho' hg _ hb
    refine h v' w' ?_ hg hb
    rw [Own, List.length_append, iv, List.map_append]
    exact ho'
/-- The same at a step of a region that draws. -/
theorem step_append_one {w : World} {ops : Array Oper} {o : Oper} {a : Act} {K : Act → World → Prop} {Q : Exit → Act → World → Prop} {E : Prop} (hgd : o.guard = none) (s x : Operand)
    (ho : o.op = .call { callee := .builtin .append, args := #[s, x], argTypes := #[28, 28] })
    (v : Value) (lo : Nat) (xs : List Int) (hs : a.eval s = v) (hown : Own w lo v xs)
    (b : Nat) (y : Int) (hx : a.eval x = .slice (some ⟨b, 0, none⟩) 1 1) (hc : w.cell? ⟨b, 0, none⟩ = some (.int .i64 y)) (hlen : xs.length + 1 ≤ 1048576) (hlo : lo ≤ w.heap.size)
    (h : ∀ v' w', Own w' lo v' (xs ++ [y]) → w.grownBy w' v.ownBlock → (v'.ownBlock = v.ownBlock ∨ v'.ownBlock = some w.heap.size) → K (a.put o.dst v') w') :
    if Region.wanted o (yielded ops a.tmps) = true then Oper.wp Tryd.prog o a w K Q else E := by
  have hw : Region.wanted o (yielded ops a.tmps) = true := by simp [Region.wanted, hgd]
  rw [if_pos hw]
  obtain ⟨i0, hi, hz0, hz1, hz2⟩ := info_parts int_info
  obtain ⟨v', w', hr, h2, h3, _, h5⟩ := run_append_own_at (P := Tryd.prog) w lo 28 o.type 3 i0 (.int .i64 0) 1 8 Tryd.underlying28 hi hz0 hz1 hz2 rfl (by decide) v xs.length (iv xs) hown ⟨b, 0, none⟩ 1 1 [.int .i64 y] rfl (fun j u hj => by
    cases j with
    | zero => simp at hj; subst hj; exact hc
    | succ j => simp at hj) (by simp [Value.oneCell']) (by simp only [maxLen]; omega) (by omega) hlo
  unfold Oper.wp execOp
  simp only [ho, resolve, invoke, builtin, Sem.run_bind, Sem.run_pure, Result.andThen_ok, List.map_toArray, List.map_cons, List.map_nil, hs, hx, hr]
  refine h v' w' ?_ h3 h5
  rw [Own, List.length_append, iv, List.map_append]
  exact h2
end Go.Proofs.YtkaiekhmcjojoaaDoor
