/- The walk of FnExactIsRowOp. -/
import Derived.Test.YtocfdmgojjoicaaRowOpI
namespace Go.Proofs.Ytocfdmgojjoicaa
open Go.RowKit
set_option linter.unusedSimpArgs false
set_option linter.unusedVariables false
theorem walkFnExactIsRowOp (k : Int) (_h1 : -9223372036854775808 ≤ k) (_h1' : k ≤ 9223372036854775807) (i : Int) (_h2 : -9223372036854775808 ≤ i) (_h2' : i ≤ 9223372036854775807)
    (j : Int) (_h3 : -9223372036854775808 ≤ j) (_h3' : j ≤ 9223372036854775807) (t : Int) (_h4 : -9223372036854775808 ≤ t) (_h4' : t ≤ 9223372036854775807)
    (rows : Int) (_h5 : -9223372036854775808 ≤ rows) (_h5' : rows ≤ 9223372036854775807) (w : World) :
    Calls Try.prog 7 #[opv k i j t, .int .i64 rows] w fun e w' => e = .returned (.bool true) ∧ Below w.heap.size w w' := by
  have e1 : (isRowOp k i j t rows != isRowOp k i j t rows) = false := by simp
  go_enter Try.func7, Try.ntmps7
  go_wp2_with (first
    | (go_at_call 14; refine (toRowOp _ _ _ _ _).mono ?_; rintro e w1 ⟨rfl, hb⟩; obtain ⟨hc, hf⟩ := bcell hb; have hs : ∀ b, b < _ → b < _ := fun b h => Nat.lt_of_lt_of_le h hb.size; have hz := hb.size; (try simp only [World.size_alloc, World.size_setCell, World.size_drew, size_drewN] at hz))
    | (go_at_call 17; refine (specIsRowOp _ _ _ _ _ _ (by omega) (by omega)).mono ?_; rintro e w2 ⟨rfl, hb⟩; obtain ⟨hc, hf⟩ := bcell hb; have hs : ∀ b, b < _ → b < _ := fun b h => Nat.lt_of_lt_of_le h hb.size; have hz := hb.size; (try simp only [World.size_alloc, World.size_setCell, World.size_drew, size_drewN] at hz))
    | (go_at_call 18; refine (implIsRowOp _ _ _ _ _ _).mono ?_; rintro e w3 ⟨rfl, hb⟩; obtain ⟨hc, hf⟩ := bcell hb; have hs : ∀ b, b < _ → b < _ := fun b h => Nat.lt_of_lt_of_le h hb.size; have hz := hb.size; (try simp only [World.size_alloc, World.size_setCell, World.size_drew, size_drewN] at hz)))
  go_returns
  exact ⟨rfl, (by repeat' (first | exact Below.refl _ _ | (refine Below.alloc ?_ ?_ _) | (refine Below.setCell ?_ ?_ _) | (refine Below.drew ?_) | (refine below_drewN ?_ _) | (refine Below.trans ?_ (Below.mono (by assumption) ?_)) | omega | (simp only [World.size_alloc, World.size_setCell, World.size_drew, size_drewN]; omega)))⟩
end Go.Proofs.Ytocfdmgojjoicaa
