/- The laws' helpers over slices that are owned, whatever their form; what a mark keeps. -/
import Derived.Test.YthbmmoajfghjbaaMarkW
namespace Go.Proofs.Ythbmmoajfghjbaa
open Go.RowKit
set_option linter.unusedSimpArgs false
set_option linter.unusedVariables false

theorem Own.sl {w : World} {lo : Nat} {s : Value} {xs : List Int} (h : Own w lo s xs) : ∃ A c, s = .slice A xs.length c ∧ SlI w A xs := by
  rcases Own.form h with ⟨rfl, rfl⟩ | ⟨g, c, rfl, _, _⟩
  · exact ⟨none, 0, rfl, SlI.nil⟩
  · exact ⟨_, c, rfl, (Own.reads h).2⟩
/-- A cell of a box outlives a mark. -/
theorem keepO {w w' : World} {s : Value} {lo hi b o : Nat} {v : Value} (hg : w.grownBy w' s.ownBlock) (hl : ∀ k, s.ownBlock = some k → lo ≤ k ∧ k < hi) (h : w.cell? ⟨b, o, none⟩ = some v) (hb : b < lo ∨ hi ≤ b) : w'.cell? ⟨b, o, none⟩ = some v :=
  hg.cell h (fun e => by have := hl b e.symm; omega)
/-- What another slice owns outlives a mark. -/
theorem keepS {w w' : World} {s t : Value} {lo hi lo' hi' : Nat} {xs : List Int} (hg : w.grownBy w' s.ownBlock) (hl : ∀ k, s.ownBlock = some k → lo ≤ k ∧ k < hi) (h : Own w lo' t xs) (ht : ∀ k, t.ownBlock = some k → lo' ≤ k ∧ k < hi') (hd : hi' ≤ lo ∨ hi ≤ lo') : Own w' lo' t xs := by
  refine Own.keep h hg ?_
  cases e : t.ownBlock with
  | none => exact .inl rfl
  | some k =>
    refine .inr fun e2 => ?_
    have h1 := ht k e
    have h2 := hl k e2.symm
    omega
theorem below_mark {B lo hi : Nat} {W w w' : World} {s : Value} (h : Below B W w) (hg : w.grownBy w' s.ownBlock) (hl : ∀ k, s.ownBlock = some k → lo ≤ k ∧ k < hi) (hB : B ≤ lo) (hB' : B ≤ w.heap.size) : Below B W w' :=
  h.grown hg hB' (fun k hk => by have := hl k hk; omega)

theorem eqMatrix_own (r c : Int) (s t : Value) (lo lo' : Nat) (xs : List Int) (w : World) (h : Own w lo s xs) (h' : Own w lo' t xs) (hn : xs.length ≤ 1048576) :
    Calls Try.prog 19 #[mv r c s, mv r c t] w fun e w' => e = .returned (.bool true) ∧ Below w.heap.size w w' := by
  obtain ⟨A, p, rfl, hA⟩ := Own.sl h
  obtain ⟨B, q, rfl, hB⟩ := Own.sl h'
  exact eqMatrix_same r c A B p q xs w hA hB hn
theorem heldMatrix_own (r c : Int) (s : Value) (lo : Nat) (k : Int) (n : Nat) (w : World) (h : Own w lo s (marks k n)) (hn : n ≤ 1048576) (hk : 0 ≤ k) (hk' : k ≤ 9000000) :
    Calls Try.prog 21 #[mv r c s, .int .i64 k] w fun e w' => e = .returned (.int .i64 (k + (n : Int))) ∧ Below w.heap.size w w' := by
  obtain ⟨A, p, rfl, hA⟩ := Own.sl h
  rw [marks_length]
  exact heldMatrix r c A p n k w hA hn hk hk'
end Go.Proofs.Ythbmmoajfghjbaa
