/- A box of a matrix: its three cells, which may be written. -/
import Derived.Test.YthbmmoajfghjbaaOwnW
namespace Go.Proofs.Ythbmmoajfghjbaa
open Go.RowKit
set_option linter.unusedSimpArgs false
set_option linter.unusedVariables false

def Box3 (w : World) (b : Nat) (x y z : Value) : Prop :=
  (w.cell? ⟨b, 0, none⟩ = some x ∧ w.cell? ⟨b, 1, none⟩ = some y ∧ w.cell? ⟨b, 2, none⟩ = some z) ∧ w.frozen? ⟨b, 0, none⟩ = false ∧ w.frozen? ⟨b, 1, none⟩ = false ∧ w.frozen? ⟨b, 2, none⟩ = false
namespace Box3
variable {w w' : World} {b : Nat} {x y z : Value}
theorem lt (h : Box3 w b x y z) : b < w.heap.size := World.block_lt_of_cell? _ ⟨b, 0, none⟩ h.1.1
theorem of_block (h : Box3 w b x y z) (e : w'.heap[b]? = w.heap[b]?) : Box3 w' b x y z := by
  obtain ⟨⟨h0, h1, h2⟩, f0, f1, f2⟩ := h
  have hf : ∀ o, w'.frozen? ⟨b, o, none⟩ = w.frozen? ⟨b, o, none⟩ := fun o => World.frozen?_of_block e
  have hc : ∀ o, w'.cell? ⟨b, o, none⟩ = w.cell? ⟨b, o, none⟩ := fun o => World.cell?_of_block e
  exact ⟨⟨(hc 0).trans h0, (hc 1).trans h1, (hc 2).trans h2⟩, (hf 0).trans f0, (hf 1).trans f1, (hf 2).trans f2⟩
theorem below {B : Nat} (h : Box3 w b x y z) (hb : Below B w w') (hB : b < B) : Box3 w' b x y z := h.of_block (hb.block b hB)
theorem call (h : Box3 w b x y z) (hb : Below w.heap.size w w') : Box3 w' b x y z := h.below hb h.lt
theorem grown {g : Option Nat} (h : Box3 w b x y z) (hg : w.grownBy w' g) (hne : some b ≠ g) : Box3 w' b x y z := h.of_block (hg.block b h.lt hne)
theorem alloc (h : Box3 w b x y z) (o : Obj) : Box3 (w.alloc o) b x y z := h.of_block (Below.heap_alloc w o b h.lt)
theorem drew (h : Box3 w b x y z) : Box3 w.drew b x y z := h
theorem drewN (h : Box3 w b x y z) (n : Nat) : Box3 (w.drewN n) b x y z := h
theorem set {p : Addr} (h : Box3 w b x y z) (hp : p.block ≠ b) (u : Value) : Box3 (w.setCell p u) b x y z := h.of_block (Below.heap_setCell w p u b (fun e => hp e.symm))
theorem new (w : World) (n : Nat) (t : TypeId) (hn : n = w.heap.size) : Box3 (w.alloc (.cells #[x, y, z] t)) n x y z := by
  subst hn
  refine ⟨⟨?_, ?_, ?_⟩, ?_, ?_, ?_⟩ <;> go_simp
theorem stored (h : Box3 w b x y z) (x' y' z' : Value) : Box3 (((w.setCell ⟨b, 0, none⟩ x').setCell ⟨b, 1, none⟩ y').setCell ⟨b, 2, none⟩ z') b x' y' z' := by
  obtain ⟨⟨h0, h1, h2⟩, f0, f1, f2⟩ := h
  refine ⟨⟨?_, ?_, ?_⟩, ?_, ?_, ?_⟩ <;> go_simp
end Box3
end Go.Proofs.Ythbmmoajfghjbaa
