/- How slices of numbers lie in memory: what is read, what is owned. -/
import Derived.Test.YthbmmoajfghjbaaNum
import Derived.Test.YthbmmoajfghjbaaRows
import Derived.Lib.SmallJoins
namespace Go.Proofs.Ythbmmoajfghjbaa
set_option linter.unusedSimpArgs false
set_option linter.unusedVariables false
open Go.RowKit Go.Joins

abbrev iv (l : List Int) : List Value := l.map (Value.int .i64)

/-- A slice value with the address A reads as the numbers xs. -/
def SlI (w : World) (A : Option Addr) (xs : List Int) : Prop :=
  0 < xs.length → ∃ g off, A = some ⟨g, off, none⟩ ∧ ∀ i, i < xs.length → w.cell? ⟨g, off + i, none⟩ = some (.int .i64 (xs.getD i 0))
theorem SlI.below {w w' : World} {A : Option Addr} {xs : List Int} (h : SlI w A xs) (hb : Below w.heap.size w w') : SlI w' A xs := by
  intro hp
  obtain ⟨g, off, e, hc⟩ := h hp
  exact ⟨g, off, e, fun i hi => kc_call (hc i hi) hb⟩
theorem SlI.nil {w : World} {A : Option Addr} : SlI w A [] := fun h => absurd h (by simp)

/-- The slice value s owns, in a block from lo on, just the numbers xs. -/
def Own (w : World) (lo : Nat) (s : Value) (xs : List Int) : Prop := w.ownsRow lo 3 1 s xs.length (iv xs)
theorem Own.nil (w : World) (lo : Nat) : Own w lo (.slice none 0 0) [] := World.ownsRow_nil _ _ _ _
theorem Own.lt {w : World} {lo : Nat} {s : Value} {xs : List Int} (h : Own w lo s xs) : ∀ k, s.ownBlock = some k → lo ≤ k ∧ k < w.heap.size := World.ownsRow.lt h
theorem Own.form {w : World} {lo : Nat} {s : Value} {xs : List Int} (h : Own w lo s xs) : (s = .slice none 0 0 ∧ xs = []) ∨ ∃ g cap, s = .slice (some ⟨g, 0, none⟩) xs.length cap ∧ lo ≤ g ∧ g < w.heap.size := by
  rcases ownsRow_forms h with ⟨e, hn⟩ | ⟨g, cap, e⟩
  · exact .inl ⟨e, List.eq_nil_of_length_eq_zero hn⟩
  · have := Own.lt h g (by rw [e]; rfl)
    exact .inr ⟨g, cap, e, this.1, this.2⟩
theorem Own.keep {w w' : World} {lo : Nat} {s : Value} {xs : List Int} {row : Option Nat} (h : Own w lo s xs) (hg : w.grownBy w' row) (hne : s.ownBlock = none ∨ s.ownBlock ≠ row) : Own w' lo s xs := World.ownsRow.kept h hg hne
theorem grown_of_below {w w' : World} (hb : Below w.heap.size w w') : w.grownBy w' none := ⟨hb.os, hb.tape, hb.output, hb.size, fun k hk _ => hb.block k hk⟩
theorem Own.below {w w' : World} {lo : Nat} {s : Value} {xs : List Int} (h : Own w lo s xs) (hb : Below w.heap.size w w') : Own w' lo s xs := by
  refine Own.keep h (grown_of_below hb) ?_
  cases hs : s.ownBlock
  · exact .inl rfl
  · exact .inr (by simp)
theorem Own.mono {w : World} {lo lo' : Nat} {s : Value} {xs : List Int} (h : Own w lo s xs) (hl : lo' ≤ lo) : Own w lo' s xs := ownsRow_le h hl
/-- What is owned can be read. -/
theorem Own.reads {w : World} {lo : Nat} {A : Option Addr} {n c : Nat} {xs : List Int} (h : Own w lo (.slice A n c) xs) : n = xs.length ∧ SlI w A xs := by
  rcases Own.form h with ⟨e, rfl⟩ | ⟨g, cap, e, _, _⟩
  · simp only [Value.slice.injEq] at e
    exact ⟨by simp [e.2.1], SlI.nil⟩
  · simp only [Value.slice.injEq] at e
    obtain ⟨rfl, rfl, rfl⟩ := e
    refine ⟨rfl, fun _ => ⟨g, 0, rfl, fun i hi => ?_⟩⟩
    rw [Nat.zero_add]
    have := World.ownsRow.cellAt h i (by omega)
    rw [this]
    simp [iv, List.getD, hi]
theorem Own.set {w : World} {lo : Nat} {s : Value} {xs : List Int} (h : Own w lo s xs) {p : Addr} (hp : s.ownBlock ≠ some p.block) (u : Value) : Own (w.setCell p u) lo s xs :=
  Own.keep h (row := some p.block) ⟨rfl, rfl, rfl, by simp, fun k _ hk => Below.heap_setCell w p u k (fun e => hk (by rw [e]))⟩ (.inr hp)
theorem Own.alloc {w : World} {lo : Nat} {s : Value} {xs : List Int} (h : Own w lo s xs) (o : Obj) : Own (w.alloc o) lo s xs := World.ownsRow.alloc h o
theorem Own.drewN {w : World} {lo : Nat} {s : Value} {xs : List Int} (h : Own w lo s xs) (n : Nat) : Own (w.drewN n) lo s xs := h
theorem own_ne {g g' n c : Nat} (h : g ≠ g') : (Value.slice (some ⟨g, 0, none⟩) n c).ownBlock ≠ some g' := by simp [Value.ownBlock, h]
theorem grownBy_trans {w w1 w2 : World} {row : Option Nat} (h1 : w.grownBy w1 row) (h2 : w1.grownBy w2 row) : w.grownBy w2 row :=
  ⟨h2.os.trans h1.os, h2.tape.trans h1.tape, h2.output.trans h1.output, Nat.le_trans h1.size h2.size, fun k hk hne => (h2.block k (Nat.lt_of_lt_of_le hk h1.size) hne).trans (h1.block k hk hne)⟩

theorem int_info : (Try.prog.info? 3).map (fun i => (i.zero, i.size, i.bytes)) = some (some (.int .i64 0), 1, 8) := by kernel_rfl
theorem madeZeros (n : Nat) : (madeCells #[Value.int .i64 0] n).toList = iv (List.replicate n 0) := by
  rw [toList_madeCells_one]; simp [iv]
theorem set_step (xs : List Int) (k : Nat) (hk : k < xs.length) :
    (iv (xs.take k ++ List.replicate (xs.length - k) 0)).set k (.int .i64 (xs.getD k 0)) = iv (xs.take (k + 1) ++ List.replicate (xs.length - (k + 1)) 0) := by
  obtain ⟨m, hm⟩ : ∃ m, xs.length - k = m + 1 := ⟨xs.length - k - 1, by omega⟩
  rw [hm, show xs.length - (k + 1) = m from by omega]
  apply List.ext_getElem?
  intro i
  simp only [iv, List.getElem?_set, List.getElem?_map, List.length_map, List.length_append, List.length_take, List.length_replicate, List.getElem?_append, List.getElem?_take, List.getElem?_replicate]
  by_cases hi : i = k
  · subst hi
    simp [hk, List.getD, Nat.min_eq_left (Nat.le_of_lt hk), show min (i + 1) xs.length = i + 1 from by omega]
  · have h1 : min k xs.length = k := by omega
    have h2 : min (k + 1) xs.length = k + 1 := by omega
    rw [if_neg (by omega), h1, h2]
    by_cases h3 : i < k
    · simp [h3, show i < k + 1 from by omega]
    · simp only [h3, show ¬ i < k + 1 from by omega, if_false]
      by_cases h4 : i - k < m + 1
      · rw [if_pos h4, if_pos (by omega)]
      · rw [if_neg h4, if_neg (by omega)]
end Go.Proofs.Ythbmmoajfghjbaa
