/- Slices of row operations, each four numbers: what is read, what is owned. -/
import Derived.Test.YthbmmoajfghjbaaRowOpW
import Derived.Test.YthbmmoajfghjbaaOwnW
import Derived.Test.YthbmmoajfghjbaaAppS
import Derived.Maps.AppendAt
import Derived.LoopTactic
namespace Go.Proofs.Ythbmmoajfghjbaa
set_option linter.unusedSimpArgs false
set_option linter.unusedVariables false
open Go.RowKit Go.Joins
/-- A slice value with the address A reads as n operations whose numbers are cs in a row. -/
def SlX (w : World) (A : Option Addr) (n : Nat) (cs : List Int) : Prop :=
  0 < n → ∃ g off, A = some ⟨g, off, none⟩ ∧ ∀ i, i < n * 4 → w.cell? ⟨g, off + i, none⟩ = some (.int .i64 (cs.getD i 0))
theorem SlX.below {w w' : World} {A : Option Addr} {n : Nat} {cs : List Int} (h : SlX w A n cs) (hb : Below w.heap.size w w') : SlX w' A n cs := by
  intro hp
  obtain ⟨g, off, e, hc⟩ := h hp
  exact ⟨g, off, e, fun i hi => kc_call (hc i hi) hb⟩
/-- The slice value s owns n operations. -/
def OwnX (w : World) (lo : Nat) (s : Value) (n : Nat) (cs : List Int) : Prop := cs.length = n * 4 ∧ w.ownsRow lo 40 4 s n (iv cs)
theorem op_info : (Try.prog.info? 40).map (fun i => (i.zero, i.size, i.bytes)) = some (some (opv 0 0 0 0), 4, 32) := by kernel_rfl
theorem OwnX.nil (w : World) (lo : Nat) : OwnX w lo (.slice none 0 0) 0 [] := ⟨rfl, World.ownsRow_nil _ _ _ _⟩
section
variable {w w' : World} {lo n : Nat} {s : Value} {cs : List Int}
theorem OwnX.lt (h : OwnX w lo s n cs) : ∀ k, s.ownBlock = some k → lo ≤ k ∧ k < w.heap.size := World.ownsRow.lt h.2
theorem OwnX.form (h : OwnX w lo s n cs) : (s = .slice none 0 0 ∧ n = 0) ∨ ∃ g cap, s = .slice (some ⟨g, 0, none⟩) n cap ∧ lo ≤ g ∧ g < w.heap.size := by
  rcases ownsRow_forms h.2 with ⟨e, hn⟩ | ⟨g, cap, e⟩
  · exact .inl ⟨e, hn⟩
  · have := OwnX.lt h g (by rw [e]; rfl)
    exact .inr ⟨g, cap, e, this.1, this.2⟩
theorem OwnX.keep {row : Option Nat} (h : OwnX w lo s n cs) (hg : w.grownBy w' row) (hne : s.ownBlock = none ∨ s.ownBlock ≠ row) : OwnX w' lo s n cs := ⟨h.1, World.ownsRow.kept h.2 hg hne⟩
theorem OwnX.below (h : OwnX w lo s n cs) (hb : Below w.heap.size w w') : OwnX w' lo s n cs := by
  refine OwnX.keep h (grown_of_below hb) ?_
  cases hs : s.ownBlock
  · exact .inl rfl
  · exact .inr (by simp)
theorem OwnX.mono {lo' : Nat} (h : OwnX w lo s n cs) (hl : lo' ≤ lo) : OwnX w lo' s n cs := ⟨h.1, ownsRow_le h.2 hl⟩
theorem OwnX.alloc (h : OwnX w lo s n cs) (o : Obj) : OwnX (w.alloc o) lo s n cs := ⟨h.1, World.ownsRow.alloc h.2 o⟩
theorem OwnX.drewN (h : OwnX w lo s n cs) (m : Nat) : OwnX (w.drewN m) lo s n cs := h
theorem OwnX.sl (h : OwnX w lo s n cs) : ∃ A c, s = .slice A n c ∧ SlX w A n cs := by
  rcases OwnX.form h with ⟨rfl, rfl⟩ | ⟨g, cap, rfl, _, _⟩
  · exact ⟨none, 0, rfl, fun h => absurd h (by simp)⟩
  · refine ⟨_, cap, rfl, fun _ => ⟨g, 0, rfl, fun i hi => ?_⟩⟩
    rw [Nat.zero_add, World.ownsRow.cellAt h.2 i hi]
    have : i < cs.length := by rw [h.1]; exact hi
    simp [iv, List.getD, this]
theorem OwnX.reads {A : Option Addr} {c : Nat} (h : OwnX w lo (.slice A n c) n cs) : SlX w A n cs := by
  obtain ⟨B, d, e, hs⟩ := OwnX.sl h
  injection e with e1 e2 e3
  subst e1
  exact hs
end
theorem ownX_empty (w : World) (n : Nat) (hn : n = w.heap.size) : OwnX (w.alloc (.cells #[] 40)) n (.slice (some ⟨n, 0, none⟩) 0 0) 0 [] := by
  subst hn
  have := World.ownsRow_lit (base := w.heap.size) (e := 40) (size := 4) w #[] 0 (Nat.le_refl _) (by simp [maxLen]) rfl
  exact ⟨rfl, by simpa [iv] using this⟩
/-- One operation is appended, out of a block of its own. -/
theorem wpList_append_op {w : World} {ops : Array Oper} {rest : List Oper} {o : Oper} {a : Act} {Q : Exit → Act → World → Prop} (hgd : o.guard = none) (s x : Operand)
    (ho : o.op = .call { callee := .builtin .append, args := #[s, x], argTypes := #[24, 24] })
    (v : Value) (lo n : Nat) (cs : List Int) (hs : a.eval s = v) (hown : OwnX w lo v n cs)
    (b : Nat) (k i j t : Int) (hx : a.eval x = .slice (some ⟨b, 0, none⟩) 1 1) (h0 : w.cell? ⟨b, 0, none⟩ = some (.int .i64 k)) (h1 : w.cell? ⟨b, 1, none⟩ = some (.int .i64 i)) (h2 : w.cell? ⟨b, 2, none⟩ = some (.int .i64 j)) (h3 : w.cell? ⟨b, 3, none⟩ = some (.int .i64 t)) (hlen : n + 1 ≤ 4294967296) (hlo : lo ≤ w.heap.size)
    (h : ∀ v' w', OwnX w' lo v' (n + 1) (cs ++ [k, i, j, t]) → w.grownBy w' v.ownBlock → (v'.ownBlock = v.ownBlock ∨ v'.ownBlock = some w.heap.size) → wpList Try.prog ops Q rest (a.put o.dst v') w') : wpList Try.prog ops Q (o :: rest) a w := by
  obtain ⟨i0, hi, hz0, hz1, hz2⟩ := info_parts op_info
  refine wpList_append_own_at w hgd s x 24 ho lo 40 i0 (opv 0 0 0 0) 4 32 Try.underlying24 hi hz0 hz1 hz2 rfl (by decide) v n (iv cs) hs hown.2 ⟨b, 0, none⟩ 1 1 (iv [k, i, j, t]) hx rfl ?_ (by simp [Value.oneCell']) (by simp only [maxLen]; omega) (by omega) hlo ?_
  · intro m u hm
    rcases (by have := (List.getElem?_eq_some_iff.1 hm).1; simp [iv] at this; omega : m = 0 ∨ m = 1 ∨ m = 2 ∨ m = 3) with rfl | rfl | rfl | rfl <;> simp [iv] at hm <;> subst hm <;> rw [addr_add] <;> simpa using by assumption
  · intro v' w' ho' hg _ hb
    refine h v' w' ⟨by rw [List.length_append, hown.1]; simp; omega, ?_⟩ hg hb
    rw [iv, List.map_append]
    exact ho'
end Go.Proofs.Ythbmmoajfghjbaa
