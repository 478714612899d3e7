/-
  No cell of these rows narrows 'for every input' (looked for: loops, veiled, ifaces, maps, wideKeys, modest, calm, conditions, laid).
  DERIVED. THE GIVEN ROWS OF THIS SEAT. 7 by the template 'for every input the law returns true; each argument reads behind the call as it read before'; 0 by the template 'total and deterministic' (their statements: YtgiggeabadlhcaaTotals.lean).
  GIVEN WITH THE SEED: the statements are not yours to turn. If you find one false, say at which input.
  Laid BY PROGRAM, IN A SANDBOX (cutbox-rows.mjs): the forced cells as the released guide's own fill.sh prints them over the translation 41d9ac3e3ba2d668… (all of the seat's roots in one cut). By AI agents, Wed Nov 11 2026. No macro, syntax, notation, axiom, sorry.
-/
import Derived.Test.YtgiggeabadlhcaaChecked
import GoSem.Claim
import GoSem.ClaimJoined
import GoSem.ClaimMapViews
import Derived.JoinedTies
import Derived.KernelRfl
namespace Go.Proofs.Ytgiggeabadlhcaa
/- THE CELL 'sum', in the pinned program and in every row, IS THE sha256 OF THE DUMP (.gsa) THAT YtgiggeabadlhcaaProg.lean LOADS. Nothing in Lean hashes anything: it is a label: what it is worth is what the hold of that sum in a sandbox is worth. -/
noncomputable def Try.pinned : Pinned := { name := "ytgiggeabadlhcaa", sum := "41d9ac3e3ba2d668fea5d617cb513d41f6cebf961277fb28954fd05e7257225b", checked := Try.checked }
namespace Rows
def none {H : Type} : Left H := { results := [], args := [] }

/-- 'laws.FnExactSameMatrix': WHATEVER THE INPUT: true; the input reads as it did. -/
def fnExactSameMatrixSpec : ChangeSpec := { name := "fnExactSameMatrix", fn := fun _ => fun
  | [d1, d2] => { results := [.lit (.bool true)], args := [d1, d2] }
  | _ => none }
def fnExactSameMatrixRow : OpenClaim := { program := "ytgiggeabadlhcaa", sum := "41d9ac3e3ba2d668fea5d617cb513d41f6cebf961277fb28954fd05e7257225b", func := "loop.example/g03411/laws.FnExactSameMatrix", spec := "fnExactSameMatrix", apart := false }
def FnExactSameMatrixSaid : Prop := fnExactSameMatrixRow.holds Try.pinned (OpenSpec.ofChange fnExactSameMatrixSpec)

/-- ITS FALSE NEIGHBOUR: 'it returns false'. Refute it at one input. -/
def fnExactSameMatrixWrong : ChangeSpec := { name := "fnExactSameMatrix", fn := fun _ => fun
  | [d1, d2] => { results := [.lit (.bool false)], args := [d1, d2] }
  | _ => none }
def FnExactSameMatrixWrongFalsely : Prop := fnExactSameMatrixRow.holds Try.pinned (OpenSpec.ofChange fnExactSameMatrixWrong)

/-- 'laws.FnExactIsMatrix': WHATEVER THE INPUT: true; the input reads as it did. -/
def fnExactIsMatrixSpec : ChangeSpec := { name := "fnExactIsMatrix", fn := fun _ => fun
  | [d] => { results := [.lit (.bool true)], args := [d] }
  | _ => none }
def fnExactIsMatrixRow : OpenClaim := { program := "ytgiggeabadlhcaa", sum := "41d9ac3e3ba2d668fea5d617cb513d41f6cebf961277fb28954fd05e7257225b", func := "loop.example/g03411/laws.FnExactIsMatrix", spec := "fnExactIsMatrix", apart := false }
def FnExactIsMatrixSaid : Prop := fnExactIsMatrixRow.holds Try.pinned (OpenSpec.ofChange fnExactIsMatrixSpec)

/-- ITS FALSE NEIGHBOUR: 'it returns false'. Refute it at one input. -/
def fnExactIsMatrixWrong : ChangeSpec := { name := "fnExactIsMatrix", fn := fun _ => fun
  | [d] => { results := [.lit (.bool false)], args := [d] }
  | _ => none }
def FnExactIsMatrixWrongFalsely : Prop := fnExactIsMatrixRow.holds Try.pinned (OpenSpec.ofChange fnExactIsMatrixWrong)

/-- 'laws.FnExactIdentityMatrix': WHATEVER THE INPUT: true; the input reads as it did. -/
def fnExactIdentityMatrixSpec : ChangeSpec := { name := "fnExactIdentityMatrix", fn := fun _ => fun
  | [d] => { results := [.lit (.bool true)], args := [d] }
  | _ => none }
def fnExactIdentityMatrixRow : OpenClaim := { program := "ytgiggeabadlhcaa", sum := "41d9ac3e3ba2d668fea5d617cb513d41f6cebf961277fb28954fd05e7257225b", func := "loop.example/g03411/laws.FnExactIdentityMatrix", spec := "fnExactIdentityMatrix", apart := false }
def FnExactIdentityMatrixSaid : Prop := fnExactIdentityMatrixRow.holds Try.pinned (OpenSpec.ofChange fnExactIdentityMatrixSpec)

/-- ITS FALSE NEIGHBOUR: 'it returns false'. Refute it at one input. -/
def fnExactIdentityMatrixWrong : ChangeSpec := { name := "fnExactIdentityMatrix", fn := fun _ => fun
  | [d] => { results := [.lit (.bool false)], args := [d] }
  | _ => none }
def FnExactIdentityMatrixWrongFalsely : Prop := fnExactIdentityMatrixRow.holds Try.pinned (OpenSpec.ofChange fnExactIdentityMatrixWrong)

/-- 'laws.FnExactIsSquare': WHATEVER THE INPUT: true; the input reads as it did. -/
def fnExactIsSquareSpec : ChangeSpec := { name := "fnExactIsSquare", fn := fun _ => fun
  | [d] => { results := [.lit (.bool true)], args := [d] }
  | _ => none }
def fnExactIsSquareRow : OpenClaim := { program := "ytgiggeabadlhcaa", sum := "41d9ac3e3ba2d668fea5d617cb513d41f6cebf961277fb28954fd05e7257225b", func := "loop.example/g03411/laws.FnExactIsSquare", spec := "fnExactIsSquare", apart := false }
def FnExactIsSquareSaid : Prop := fnExactIsSquareRow.holds Try.pinned (OpenSpec.ofChange fnExactIsSquareSpec)

/-- ITS FALSE NEIGHBOUR: 'it returns false'. Refute it at one input. -/
def fnExactIsSquareWrong : ChangeSpec := { name := "fnExactIsSquare", fn := fun _ => fun
  | [d] => { results := [.lit (.bool false)], args := [d] }
  | _ => none }
def FnExactIsSquareWrongFalsely : Prop := fnExactIsSquareRow.holds Try.pinned (OpenSpec.ofChange fnExactIsSquareWrong)

/-- 'laws.FnExactCellOf': WHATEVER THE INPUT: true; the input reads as it did. -/
def fnExactCellOfSpec : ChangeSpec := { name := "fnExactCellOf", fn := fun _ => fun
  | [d1, d2, d3] => { results := [.lit (.bool true)], args := [d1, d2, d3] }
  | _ => none }
def fnExactCellOfRow : OpenClaim := { program := "ytgiggeabadlhcaa", sum := "41d9ac3e3ba2d668fea5d617cb513d41f6cebf961277fb28954fd05e7257225b", func := "loop.example/g03411/laws.FnExactCellOf", spec := "fnExactCellOf", apart := false }
def FnExactCellOfSaid : Prop := fnExactCellOfRow.holds Try.pinned (OpenSpec.ofChange fnExactCellOfSpec)

/-- ITS FALSE NEIGHBOUR: 'it returns false'. Refute it at one input. -/
def fnExactCellOfWrong : ChangeSpec := { name := "fnExactCellOf", fn := fun _ => fun
  | [d1, d2, d3] => { results := [.lit (.bool false)], args := [d1, d2, d3] }
  | _ => none }
def FnExactCellOfWrongFalsely : Prop := fnExactCellOfRow.holds Try.pinned (OpenSpec.ofChange fnExactCellOfWrong)

/-- 'laws.FnExactRowOf': WHATEVER THE INPUT: true; the input reads as it did. -/
def fnExactRowOfSpec : ChangeSpec := { name := "fnExactRowOf", fn := fun _ => fun
  | [d1, d2] => { results := [.lit (.bool true)], args := [d1, d2] }
  | _ => none }
def fnExactRowOfRow : OpenClaim := { program := "ytgiggeabadlhcaa", sum := "41d9ac3e3ba2d668fea5d617cb513d41f6cebf961277fb28954fd05e7257225b", func := "loop.example/g03411/laws.FnExactRowOf", spec := "fnExactRowOf", apart := false }
def FnExactRowOfSaid : Prop := fnExactRowOfRow.holds Try.pinned (OpenSpec.ofChange fnExactRowOfSpec)

/-- ITS FALSE NEIGHBOUR: 'it returns false'. Refute it at one input. -/
def fnExactRowOfWrong : ChangeSpec := { name := "fnExactRowOf", fn := fun _ => fun
  | [d1, d2] => { results := [.lit (.bool false)], args := [d1, d2] }
  | _ => none }
def FnExactRowOfWrongFalsely : Prop := fnExactRowOfRow.holds Try.pinned (OpenSpec.ofChange fnExactRowOfWrong)

/-- 'laws.FnExactStackRows': WHATEVER THE INPUT: true; the input reads as it did. -/
def fnExactStackRowsSpec : ChangeSpec := { name := "fnExactStackRows", fn := fun _ => fun
  | [d1, d2] => { results := [.lit (.bool true)], args := [d1, d2] }
  | _ => none }
def fnExactStackRowsRow : OpenClaim := { program := "ytgiggeabadlhcaa", sum := "41d9ac3e3ba2d668fea5d617cb513d41f6cebf961277fb28954fd05e7257225b", func := "loop.example/g03411/laws.FnExactStackRows", spec := "fnExactStackRows", apart := false }
def FnExactStackRowsSaid : Prop := fnExactStackRowsRow.holds Try.pinned (OpenSpec.ofChange fnExactStackRowsSpec)

/-- ITS FALSE NEIGHBOUR: 'it returns false'. Refute it at one input. -/
def fnExactStackRowsWrong : ChangeSpec := { name := "fnExactStackRows", fn := fun _ => fun
  | [d1, d2] => { results := [.lit (.bool false)], args := [d1, d2] }
  | _ => none }
def FnExactStackRowsWrongFalsely : Prop := fnExactStackRowsRow.holds Try.pinned (OpenSpec.ofChange fnExactStackRowsWrong)

/- THE SECOND FORM. 'bulk': how many values and letters a reading holds, each counted each time it is reached (what is shared counts as often as it is met; a slice's spare places count too). A statement '..UptoSaid' is the law's where the arguments, and the package variables that the reading takes, are together of bulk at most 1048576: NARROWER than '..Said'. Prove '..Said' where nothing that the law and all that it calls make is longer than what came in: it says more and counts as full. Else prove '..UptoSaid'. A law counts once. -/
mutual
def uptoBulk {H : Type} : DataW H → Nat
  | .lit (.string bytes) => bytes.length + 1
  | .lit _ => 1
  | .nil => 1
  | .ptr d => uptoBulk d + 1
  | .slice elems spare => uptoBulkAll elems + uptoBulkAll spare + 1
  | .agg parts => uptoBulkAll parts + 1
  | .iface _ d => uptoBulk d + 1
  | .map entries => uptoBulkEntries entries + 1
  | .held _ => 1
def uptoBulkAll {H : Type} : List (DataW H) → Nat
  | [] => 0
  | d :: r => uptoBulk d + uptoBulkAll r
def uptoBulkEntries {H : Type} : List (Lit × DataW H) → Nat
  | [] => 0
  | x :: r => uptoBulkEntry x + uptoBulkEntries r
def uptoBulkEntry {H : Type} : Lit × DataW H → Nat
  | (.string bytes, d) => bytes.length + uptoBulk d + 1
  | (_, d) => uptoBulk d + 1
 end
def uptoSmall : (H : Type) → List (DataW H) → Bool := fun _ ds => decide (uptoBulkAll ds ≤ 1048576)
def OpenSpec.upto (s : _root_.Go.ChangeSpec) : _root_.Go.OpenSpec := { _root_.Go.OpenSpec.ofChange s with cond := some uptoSmall }

/-- 'laws.FnExactSameMatrix', WHERE WHAT IT READS IS OF BULK AT MOST 1048576: true; the input reads as it did. -/
def fnExactSameMatrixUptoRow : OpenClaim := { program := "ytgiggeabadlhcaa", sum := "41d9ac3e3ba2d668fea5d617cb513d41f6cebf961277fb28954fd05e7257225b", func := "loop.example/g03411/laws.FnExactSameMatrix", spec := "fnExactSameMatrix", apart := false, narrowed := true }
def FnExactSameMatrixUptoSaid : Prop := fnExactSameMatrixUptoRow.holds Try.pinned (OpenSpec.upto fnExactSameMatrixSpec)

/-- 'laws.FnExactIsMatrix', WHERE WHAT IT READS IS OF BULK AT MOST 1048576: true; the input reads as it did. -/
def fnExactIsMatrixUptoRow : OpenClaim := { program := "ytgiggeabadlhcaa", sum := "41d9ac3e3ba2d668fea5d617cb513d41f6cebf961277fb28954fd05e7257225b", func := "loop.example/g03411/laws.FnExactIsMatrix", spec := "fnExactIsMatrix", apart := false, narrowed := true }
def FnExactIsMatrixUptoSaid : Prop := fnExactIsMatrixUptoRow.holds Try.pinned (OpenSpec.upto fnExactIsMatrixSpec)

/-- 'laws.FnExactIdentityMatrix', WHERE WHAT IT READS IS OF BULK AT MOST 1048576: true; the input reads as it did. -/
def fnExactIdentityMatrixUptoRow : OpenClaim := { program := "ytgiggeabadlhcaa", sum := "41d9ac3e3ba2d668fea5d617cb513d41f6cebf961277fb28954fd05e7257225b", func := "loop.example/g03411/laws.FnExactIdentityMatrix", spec := "fnExactIdentityMatrix", apart := false, narrowed := true }
def FnExactIdentityMatrixUptoSaid : Prop := fnExactIdentityMatrixUptoRow.holds Try.pinned (OpenSpec.upto fnExactIdentityMatrixSpec)

/-- 'laws.FnExactIsSquare', WHERE WHAT IT READS IS OF BULK AT MOST 1048576: true; the input reads as it did. -/
def fnExactIsSquareUptoRow : OpenClaim := { program := "ytgiggeabadlhcaa", sum := "41d9ac3e3ba2d668fea5d617cb513d41f6cebf961277fb28954fd05e7257225b", func := "loop.example/g03411/laws.FnExactIsSquare", spec := "fnExactIsSquare", apart := false, narrowed := true }
def FnExactIsSquareUptoSaid : Prop := fnExactIsSquareUptoRow.holds Try.pinned (OpenSpec.upto fnExactIsSquareSpec)

/-- 'laws.FnExactCellOf', WHERE WHAT IT READS IS OF BULK AT MOST 1048576: true; the input reads as it did. -/
def fnExactCellOfUptoRow : OpenClaim := { program := "ytgiggeabadlhcaa", sum := "41d9ac3e3ba2d668fea5d617cb513d41f6cebf961277fb28954fd05e7257225b", func := "loop.example/g03411/laws.FnExactCellOf", spec := "fnExactCellOf", apart := false, narrowed := true }
def FnExactCellOfUptoSaid : Prop := fnExactCellOfUptoRow.holds Try.pinned (OpenSpec.upto fnExactCellOfSpec)

/-- 'laws.FnExactRowOf', WHERE WHAT IT READS IS OF BULK AT MOST 1048576: true; the input reads as it did. -/
def fnExactRowOfUptoRow : OpenClaim := { program := "ytgiggeabadlhcaa", sum := "41d9ac3e3ba2d668fea5d617cb513d41f6cebf961277fb28954fd05e7257225b", func := "loop.example/g03411/laws.FnExactRowOf", spec := "fnExactRowOf", apart := false, narrowed := true }
def FnExactRowOfUptoSaid : Prop := fnExactRowOfUptoRow.holds Try.pinned (OpenSpec.upto fnExactRowOfSpec)

/-- 'laws.FnExactStackRows', WHERE WHAT IT READS IS OF BULK AT MOST 1048576: true; the input reads as it did. -/
def fnExactStackRowsUptoRow : OpenClaim := { program := "ytgiggeabadlhcaa", sum := "41d9ac3e3ba2d668fea5d617cb513d41f6cebf961277fb28954fd05e7257225b", func := "loop.example/g03411/laws.FnExactStackRows", spec := "fnExactStackRows", apart := false, narrowed := true }
def FnExactStackRowsUptoSaid : Prop := fnExactStackRowsUptoRow.holds Try.pinned (OpenSpec.upto fnExactStackRowsSpec)

end Rows
end Go.Proofs.Ytgiggeabadlhcaa
