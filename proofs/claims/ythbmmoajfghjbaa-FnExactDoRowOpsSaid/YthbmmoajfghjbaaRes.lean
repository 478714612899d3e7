/- The result of a function that returns a matrix of its own and whether there is one. -/
import Derived.Test.YthbmmoajfghjbaaOwnW
import Derived.Test.YthbmmoajfghjbaaNewW
import Derived.Test.YthbmmoajfghjbaaTab
namespace Go.Proofs.Ythbmmoajfghjbaa
open Go.RowKit
set_option linter.unusedSimpArgs false
set_option linter.unusedVariables false

structure MRes where
  R : Int
  C : Int
  L : List Int
  ok : Bool
def MRes.no : MRes := ⟨0, 0, [], false⟩
def RetMat (w : World) (R C : Int) (XS : List Int) (ok : Bool) (e : Ending) (w' : World) : Prop :=
  ∃ s, e = .returned (.tuple #[mv R C s, .bool ok]) ∧ Own w' w.heap.size s XS ∧ Below w.heap.size w w'
def RetM (w : World) (m : MRes) (e : Ending) (w' : World) : Prop := RetMat w m.R m.C m.L m.ok e w'
/-- What a function gives that returns a matrix of its own. -/
def RetM3 (w : World) (R C : Int) (XS : List Int) (e : Ending) (w' : World) : Prop :=
  ∃ s, e = .returned (mv R C s) ∧ Own w' w.heap.size s XS ∧ Below w.heap.size w w'
/-- A block outside a range is not the one that is owned. -/
theorem own_nl {s : Value} {lo hi k : Nat} (hl : ∀ j, s.ownBlock = some j → lo ≤ j ∧ j < hi) (h : k < lo ∨ hi ≤ k) : s.ownBlock ≠ some k := fun e => by have := hl k e; omega
theorem own_tab {w : World} {lo : Nat} {s : Value} {n : Nat} {f : Nat → Int} (h : Own w lo s (tab n f)) : w.ownsRow lo 3 1 s n (iv (tab n f)) := by
  have := h
  rwa [Own, tab_length] at this
theorem own_some {w : World} {lo : Nat} {A : Option Addr} {n c : Nat} {xs : List Int} (h : Own w lo (.slice A n c) xs) (hp : 0 < xs.length) : ∃ g, A = some ⟨g, 0, none⟩ ∧ lo ≤ g ∧ g < w.heap.size := by
  rcases Own.form h with ⟨_, rfl⟩ | ⟨g, cap, e, h1, h2⟩
  · simp at hp
  · injection e with e1 e2 e3
    exact ⟨g, e1, h1, h2⟩
theorem own_nm {w : World} {lo : Nat} {A : Option Addr} {n c : Nat} {xs : List Int} (h : Own w lo (.slice A n c) xs) : ∀ j, (Value.slice A n c).ownBlock = some j → lo ≤ j := fun j e => (Own.lt h j e).1
/-- The world behind a store into a row that is owned. -/
theorem own_store {w : World} {lo g cap n k : Nat} {f f' : Nat → Int} {v : Int} (h : Own w lo (.slice (some ⟨g, 0, none⟩) n cap) (tab n f)) (he : (tab n f).set k v = tab n f') :
    Own (w.setCell ⟨g, k, none⟩ (.int .i64 v)) lo (.slice (some ⟨g, 0, none⟩) n cap) (tab n f') ∧ w.grownBy (w.setCell ⟨g, k, none⟩ (.int .i64 v)) (some g) := by
  have hs := World.ownsRow.stored (own_tab h) k (.int .i64 v)
  refine ⟨?_, hs.2⟩
  have h1 := hs.1
  rw [Own, tab_length, ← he]
  simpa [iv, List.map_set] using h1
theorem own_cell {w : World} {lo g cap n k : Nat} {f : Nat → Int} (h : Own w lo (.slice (some ⟨g, 0, none⟩) n cap) (tab n f)) (hk : k < n) : w.cell? ⟨g, k, none⟩ = some (.int .i64 (f k)) := by
  have := World.ownsRow.cellAt (own_tab h) k (by omega)
  rw [this]
  simp [iv, tab, hk]
theorem own_free {w : World} {lo g cap n : Nat} {f : Nat → Int} (h : Own w lo (.slice (some ⟨g, 0, none⟩) n cap) (tab n f)) (k : Nat) : w.frozen? ⟨g, k, none⟩ = false :=
  World.ownsRow.frozenAt (own_tab h) k
theorem implSetTab (r c i j x : Int) (k g cap n lo : Nat) (f f' : Nat → Int) (w : World) (h : Own w lo (.slice (some ⟨g, 0, none⟩) n cap) (tab n f)) (hn : n ≤ 1048576)
    (hk : Hid (i * c = (k : Int) - j)) (hlt : k < n) (he : Hid ((tab n f).set k x = tab n f')) (h0 : 0 ≤ i * c) (h1 : i * c ≤ 1048576) (j0 : 0 ≤ j) (j1 : j ≤ 1048576) :
    Calls Try.prog 54 #[mv r c (.slice (some ⟨g, 0, none⟩) n cap), .int .i64 i, .int .i64 j, .int .i64 x] w fun e w' => e = .returned (.tuple #[]) ∧ Own w' lo (.slice (some ⟨g, 0, none⟩) n cap) (tab n f') ∧ w.grownBy w' (some g) := by
  have h2 := implSet_some r c i j x k g cap lo (tab n f) w (by rw [tab_length]; exact h) (by rw [tab_length]; exact hn) hk (by rw [tab_length]; exact hlt) h0 h1 j0 j1
  rw [tab_length, he.out] at h2
  exact h2
end Go.Proofs.Ythbmmoajfghjbaa
