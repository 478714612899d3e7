/- append onto a slice of the call's own, from whatever slice of numbers. -/
import Derived.Test.YthbmmoajfghjbaaMem
import Derived.WalkKit
import Derived.Laws.AppendOwnNone
namespace Go.Proofs.Ythbmmoajfghjbaa
open Go.RowKit
set_option linter.unusedSimpArgs false
set_option linter.unusedVariables false

/-- A slice value with all that an append or a cut asks: its length, its capacity, what it reads as. -/
def Sl (w : World) (A : Option Addr) (n c : Nat) (xs : List Int) : Prop := n = xs.length ∧ xs.length ≤ c ∧ c ≤ maxLen ∧ (A = none → c = 0) ∧ SlI w A xs
theorem Sl.below {w w' : World} {A : Option Addr} {n c : Nat} {xs : List Int} (h : Sl w A n c xs) (hb : Below w.heap.size w w') : Sl w' A n c xs := ⟨h.1, h.2.1, h.2.2.1, h.2.2.2.1, h.2.2.2.2.below hb⟩
theorem Own.full {w : World} {lo : Nat} {s : Value} {xs : List Int} (h : Own w lo s xs) : ∃ A c, s = .slice A xs.length c ∧ Sl w A xs.length c xs := by
  have hx := h
  obtain ⟨_, h2⟩ := h
  rcases h2 with ⟨rfl, hn⟩ | ⟨g, cap, cur, rfl, _, _, h3, h4, _, _⟩
  · have : xs = [] := List.eq_nil_of_length_eq_zero hn
    subst this
    exact ⟨none, 0, rfl, rfl, Nat.le_refl _, by simp [maxLen], fun _ => rfl, SlI.nil⟩
  · exact ⟨_, cap, rfl, rfl, h3, h4, (fun e => by cases e), (Own.reads hx).2⟩
theorem addr_add (g off j : Nat) : (⟨g, off, none⟩ : Addr).add j = ⟨g, off + j, none⟩ := by
  unfold Addr.add; split <;> simp_all

set_option maxRecDepth 100000 in
theorem wpList_append_sl {w : World} {ops : Array Oper} {rest : List Oper} {o : Oper} {a : Act} {Q : Exit → Act → World → Prop} (hgd : o.guard = none) (s x : Operand)
    (ho : o.op = .call { callee := .builtin .append, args := #[s, x], argTypes := #[30, 30] })
    (v : Value) (lo : Nat) (xs : List Int) (hs : a.eval s = v) (hown : Own w lo v xs)
    (A : Option Addr) (n c : Nat) (ys : List Int) (hx : a.eval x = .slice A n c) (hr : Sl w A n c ys) (hlen : xs.length + ys.length ≤ 1048576) (hlo : lo ≤ w.heap.size)
    (h : ∀ v' w', Own w' lo v' (xs ++ ys) → w.grownBy w' v.ownBlock → wpList Try.prog ops Q rest (a.put o.dst v') w') : wpList Try.prog ops Q (o :: rest) a w := by
  obtain ⟨i0, hi, hz0, hz1, hz2⟩ := info_parts int_info
  obtain ⟨rfl, hnc, hcm, hnil, hsl⟩ := hr
  cases A with
  | none =>
    have hc := hnil rfl
    have hy : ys = [] := List.eq_nil_of_length_eq_zero (by omega)
    subst hy
    subst hc
    refine wpList_append_own_none hgd s x 30 ho lo 3 i0 1 Try.underlying30 hi v xs.length (iv xs) hs hown hx ?_
    have := h v w (by rw [List.append_nil]; exact hown) (World.grownBy.refl w _)
    exact this
  | some ad =>
    refine wpList_append_own w hgd s x 30 ho lo 3 i0 (.int .i64 0) 1 8 Try.underlying30 hi hz0 hz1 hz2 rfl (by decide) v xs.length (iv xs) hs hown ad ys.length c (iv ys) hx (by simp [iv]) ?_ (ints_oneCell _ _) (by simp only [maxLen]; omega) (by omega) hlo ?_
    · intro j u hj
      have hjl : j < ys.length := by
        have := (List.getElem?_eq_some_iff.1 hj).1
        simpa [iv] using this
      obtain ⟨g, off, e, hcell⟩ := hsl (by omega)
      injection e with e
      subst e
      rw [addr_add, hcell j hjl]
      simp only [iv, List.getElem?_map, List.getElem?_eq_getElem hjl, Option.map_some, Option.some.injEq] at hj
      rw [← hj]
      simp [List.getD, hjl]
    · intro v' w' ho' hg _
      refine h v' w' ?_ hg
      rw [Own, List.length_append, iv, List.map_append]
      exact ho'
end Go.Proofs.Ythbmmoajfghjbaa
