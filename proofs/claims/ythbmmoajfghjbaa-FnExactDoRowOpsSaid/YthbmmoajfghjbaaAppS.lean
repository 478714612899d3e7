/- append at a step of a region that draws. -/
import Derived.Test.YthbmmoajfghjbaaAppW
import Derived.Test.YthbmmoajfghjbaaOwnW
import Derived.Deep.AppendLies
import Derived.Laws.OwnMore
namespace Go.Proofs.Ythbmmoajfghjbaa
open Go.RowKit
set_option linter.unusedSimpArgs false
set_option linter.unusedVariables false
theorem own_empty2 (w : World) (n : Nat) (hn : n = w.heap.size) : Own (w.alloc (.cells #[] 3)) n (.slice (some ⟨n, 0, none⟩) 0 0) [] := by
  subst hn
  have := World.ownsRow_lit (base := w.heap.size) (e := 3) (size := 1) w #[] 0 (Nat.le_refl _) (by simp [maxLen]) rfl
  simpa [Own, iv] using this
theorem below_of_grown {w w' : World} {lo : Nat} {v : Value} {xs : List Int} (ho : Own w lo v xs) (hg : w.grownBy w' v.ownBlock) (hl : lo ≤ w.heap.size) : Below lo w w' :=
  (Below.refl lo w).grown hg hl (fun k hk => (Own.lt ho k hk).1)
set_option maxRecDepth 100000 in
theorem wp_append_sl {w : World} {o : Oper} {a : Act} {K : Act → World → Prop} {Q : Exit → Act → World → Prop} (s x : Operand)
    (ho : o.op = .call { callee := .builtin .append, args := #[s, x], argTypes := #[30, 30] })
    (v : Value) (lo : Nat) (xs : List Int) (hs : a.eval s = v) (hown : Own w lo v xs)
    (A : Option Addr) (n c : Nat) (ys : List Int) (hx : a.eval x = .slice A n c) (hr : Sl w A n c ys) (hlen : xs.length + ys.length ≤ 1048576) (hlo : lo ≤ w.heap.size)
    (h : ∀ v' w', Own w' lo v' (xs ++ ys) → Below lo w w' → K (a.put o.dst v') w') : o.wp Try.prog a w K Q := by
  obtain ⟨i0, hi, hz0, hz1, hz2⟩ := info_parts int_info
  obtain ⟨rfl, hnc, hcm, hnil, hsl⟩ := hr
  cases A with
  | none =>
    have hc := hnil rfl
    have hy : ys = [] := List.eq_nil_of_length_eq_zero (by omega)
    subst hy
    subst hc
    have hrun := run_append_owned_none (P := Try.prog) (w := w) lo 30 o.type 3 i0 1 Try.underlying30 hi v xs.length (iv xs) hown
    unfold Oper.wp
    simp [execOp, ho, resolve, invoke, builtin, hs, hx, hrun, Result.andThen]
    exact h v w (by rw [List.append_nil]; exact hown) (Below.refl _ _)
  | some ad =>
    refine wp_append_own w s x 30 ho lo 3 i0 (.int .i64 0) 1 8 Try.underlying30 hi hz0 hz1 hz2 rfl (by decide) v xs.length (iv xs) hs hown ad ys.length c (iv ys) hx (by simp [iv]) ?_ (ints_oneCell _ _) (by simp only [maxLen]; omega) (by omega) hlo ?_
    · intro j u hj
      have hjl : j < ys.length := by
        have := (List.getElem?_eq_some_iff.1 hj).1
        simpa [iv] using this
      obtain ⟨g, off, e, hcell⟩ := hsl (by omega)
      injection e with e
      subst e
      rw [addr_add, hcell j hjl]
      simp only [iv, List.getElem?_map, List.getElem?_eq_getElem hjl, Option.map_some, Option.some.injEq] at hj
      rw [← hj]
      simp [List.getD, hjl]
    · intro v' w' ho' hg _
      refine h v' w' ?_ (below_of_grown hown hg hlo)
      rw [Own, List.length_append, iv, List.map_append]
      exact ho'
theorem step_append_sl {w : World} {ops : Array Oper} {o : Oper} {a : Act} {K : Act → World → Prop} {Q : Exit → Act → World → Prop} {E : Prop} (hgd : o.guard = none) (s x : Operand)
    (ho : o.op = .call { callee := .builtin .append, args := #[s, x], argTypes := #[30, 30] })
    (v : Value) (lo : Nat) (xs : List Int) (hs : a.eval s = v) (hown : Own w lo v xs)
    (A : Option Addr) (n c : Nat) (ys : List Int) (hx : a.eval x = .slice A n c) (hr : Sl w A n c ys) (hlen : xs.length + ys.length ≤ 1048576) (hlo : lo ≤ w.heap.size)
    (h : ∀ v' w', Own w' lo v' (xs ++ ys) → Below lo w w' → K (a.put o.dst v') w') :
    if Region.wanted o (yielded ops a.tmps) = true then Oper.wp Try.prog o a w K Q else E := by
  have hw : Region.wanted o (yielded ops a.tmps) = true := by simp [Region.wanted, hgd]
  rw [if_pos hw]
  exact wp_append_sl s x ho v lo xs hs hown A n c ys hx hr hlen hlo h
theorem bcellB {B : Nat} {W w1 : World} (hb : Below B W w1) : (∀ b o, b < B → w1.cell? ⟨b, o, none⟩ = W.cell? ⟨b, o, none⟩) ∧ (∀ b o, b < B → w1.frozen? ⟨b, o, none⟩ = W.frozen? ⟨b, o, none⟩) :=
  ⟨fun b o h => hb.cell (p := ⟨b, o, none⟩) h, fun b o h => hb.frozen (p := ⟨b, o, none⟩) h⟩
end Go.Proofs.Ythbmmoajfghjbaa
