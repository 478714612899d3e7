/-
  No cell of these rows narrows 'for every input' (looked for: loops, veiled, ifaces, maps, wideKeys, modest, calm, conditions, laid).
  DERIVED. THE GIVEN ROWS OF THIS SEAT. 7 by the template 'for every input the law returns true; each argument reads behind the call as it read before'; 0 by the template 'total and deterministic' (their statements: YtjopanbccfebnaaTotals.lean).
  GIVEN WITH THE SEED: the statements are not yours to turn. If you find one false, say at which input.
  Laid BY PROGRAM, IN A SANDBOX (cutbox-rows.mjs): the forced cells as the released guide's own fill.sh prints them over the translation b43054bbe8f18534… (all of the seat's roots in one cut). By AI agents, Wed Nov 11 2026. No macro, syntax, notation, axiom, sorry.
-/
import Derived.Test.YtjopanbccfebnaaChecked
import GoSem.Claim
import GoSem.ClaimJoined
import GoSem.ClaimMapViews
import Derived.JoinedTies
import Derived.KernelRfl
namespace Go.Proofs.Ytjopanbccfebnaa
/- THE CELL 'sum', in the pinned program and in every row, IS THE sha256 OF THE DUMP (.gsa) THAT YtjopanbccfebnaaProg.lean LOADS. Nothing in Lean hashes anything: it is a label: what it is worth is what the hold of that sum in a sandbox is worth. -/
noncomputable def Try.pinned : Pinned := { name := "ytjopanbccfebnaa", sum := "b43054bbe8f1853446e8282086cbd84139dbfa8f6f6379b3d3bdd3169c0b416e", checked := Try.checked }
namespace Rows
def none {H : Type} : Left H := { results := [], args := [] }

/-- 'laws.FnExactWithoutCross': WHATEVER THE INPUT: true; the input reads as it did. -/
def fnExactWithoutCrossSpec : ChangeSpec := { name := "fnExactWithoutCross", fn := fun _ => fun
  | [d1, d2, d3] => { results := [.lit (.bool true)], args := [d1, d2, d3] }
  | _ => none }
def fnExactWithoutCrossRow : OpenClaim := { program := "ytjopanbccfebnaa", sum := "b43054bbe8f1853446e8282086cbd84139dbfa8f6f6379b3d3bdd3169c0b416e", func := "loop.example/g03411/laws.FnExactWithoutCross", spec := "fnExactWithoutCross", apart := false }
def FnExactWithoutCrossSaid : Prop := fnExactWithoutCrossRow.holds Try.pinned (OpenSpec.ofChange fnExactWithoutCrossSpec)

/-- ITS FALSE NEIGHBOUR: 'it returns false'. Refute it at one input. -/
def fnExactWithoutCrossWrong : ChangeSpec := { name := "fnExactWithoutCross", fn := fun _ => fun
  | [d1, d2, d3] => { results := [.lit (.bool false)], args := [d1, d2, d3] }
  | _ => none }
def FnExactWithoutCrossWrongFalsely : Prop := fnExactWithoutCrossRow.holds Try.pinned (OpenSpec.ofChange fnExactWithoutCrossWrong)

/-- 'laws.FnExactTransposeOf': WHATEVER THE INPUT: true; the input reads as it did. -/
def fnExactTransposeOfSpec : ChangeSpec := { name := "fnExactTransposeOf", fn := fun _ => fun
  | [d] => { results := [.lit (.bool true)], args := [d] }
  | _ => none }
def fnExactTransposeOfRow : OpenClaim := { program := "ytjopanbccfebnaa", sum := "b43054bbe8f1853446e8282086cbd84139dbfa8f6f6379b3d3bdd3169c0b416e", func := "loop.example/g03411/laws.FnExactTransposeOf", spec := "fnExactTransposeOf", apart := false }
def FnExactTransposeOfSaid : Prop := fnExactTransposeOfRow.holds Try.pinned (OpenSpec.ofChange fnExactTransposeOfSpec)

/-- ITS FALSE NEIGHBOUR: 'it returns false'. Refute it at one input. -/
def fnExactTransposeOfWrong : ChangeSpec := { name := "fnExactTransposeOf", fn := fun _ => fun
  | [d] => { results := [.lit (.bool false)], args := [d] }
  | _ => none }
def FnExactTransposeOfWrongFalsely : Prop := fnExactTransposeOfRow.holds Try.pinned (OpenSpec.ofChange fnExactTransposeOfWrong)

/-- 'laws.FnExactAddMatrices': WHATEVER THE INPUT: true; the input reads as it did. -/
def fnExactAddMatricesSpec : ChangeSpec := { name := "fnExactAddMatrices", fn := fun _ => fun
  | [d1, d2] => { results := [.lit (.bool true)], args := [d1, d2] }
  | _ => none }
def fnExactAddMatricesRow : OpenClaim := { program := "ytjopanbccfebnaa", sum := "b43054bbe8f1853446e8282086cbd84139dbfa8f6f6379b3d3bdd3169c0b416e", func := "loop.example/g03411/laws.FnExactAddMatrices", spec := "fnExactAddMatrices", apart := false }
def FnExactAddMatricesSaid : Prop := fnExactAddMatricesRow.holds Try.pinned (OpenSpec.ofChange fnExactAddMatricesSpec)

/-- ITS FALSE NEIGHBOUR: 'it returns false'. Refute it at one input. -/
def fnExactAddMatricesWrong : ChangeSpec := { name := "fnExactAddMatrices", fn := fun _ => fun
  | [d1, d2] => { results := [.lit (.bool false)], args := [d1, d2] }
  | _ => none }
def FnExactAddMatricesWrongFalsely : Prop := fnExactAddMatricesRow.holds Try.pinned (OpenSpec.ofChange fnExactAddMatricesWrong)

/-- 'laws.FnExactScaleMatrix': WHATEVER THE INPUT: true; the input reads as it did. -/
def fnExactScaleMatrixSpec : ChangeSpec := { name := "fnExactScaleMatrix", fn := fun _ => fun
  | [d1, d2] => { results := [.lit (.bool true)], args := [d1, d2] }
  | _ => none }
def fnExactScaleMatrixRow : OpenClaim := { program := "ytjopanbccfebnaa", sum := "b43054bbe8f1853446e8282086cbd84139dbfa8f6f6379b3d3bdd3169c0b416e", func := "loop.example/g03411/laws.FnExactScaleMatrix", spec := "fnExactScaleMatrix", apart := false }
def FnExactScaleMatrixSaid : Prop := fnExactScaleMatrixRow.holds Try.pinned (OpenSpec.ofChange fnExactScaleMatrixSpec)

/-- ITS FALSE NEIGHBOUR: 'it returns false'. Refute it at one input. -/
def fnExactScaleMatrixWrong : ChangeSpec := { name := "fnExactScaleMatrix", fn := fun _ => fun
  | [d1, d2] => { results := [.lit (.bool false)], args := [d1, d2] }
  | _ => none }
def FnExactScaleMatrixWrongFalsely : Prop := fnExactScaleMatrixRow.holds Try.pinned (OpenSpec.ofChange fnExactScaleMatrixWrong)

/-- 'laws.FnExactMultiplyMatrices': WHATEVER THE INPUT: true; the input reads as it did. -/
def fnExactMultiplyMatricesSpec : ChangeSpec := { name := "fnExactMultiplyMatrices", fn := fun _ => fun
  | [d1, d2] => { results := [.lit (.bool true)], args := [d1, d2] }
  | _ => none }
def fnExactMultiplyMatricesRow : OpenClaim := { program := "ytjopanbccfebnaa", sum := "b43054bbe8f1853446e8282086cbd84139dbfa8f6f6379b3d3bdd3169c0b416e", func := "loop.example/g03411/laws.FnExactMultiplyMatrices", spec := "fnExactMultiplyMatrices", apart := false }
def FnExactMultiplyMatricesSaid : Prop := fnExactMultiplyMatricesRow.holds Try.pinned (OpenSpec.ofChange fnExactMultiplyMatricesSpec)

/-- ITS FALSE NEIGHBOUR: 'it returns false'. Refute it at one input. -/
def fnExactMultiplyMatricesWrong : ChangeSpec := { name := "fnExactMultiplyMatrices", fn := fun _ => fun
  | [d1, d2] => { results := [.lit (.bool false)], args := [d1, d2] }
  | _ => none }
def FnExactMultiplyMatricesWrongFalsely : Prop := fnExactMultiplyMatricesRow.holds Try.pinned (OpenSpec.ofChange fnExactMultiplyMatricesWrong)

/-- 'laws.FnTurned': WHATEVER THE INPUT: true; the input reads as it did. -/
def fnTurnedSpec : ChangeSpec := { name := "fnTurned", fn := fun _ => fun
  | [d] => { results := [.lit (.bool true)], args := [d] }
  | _ => none }
def fnTurnedRow : OpenClaim := { program := "ytjopanbccfebnaa", sum := "b43054bbe8f1853446e8282086cbd84139dbfa8f6f6379b3d3bdd3169c0b416e", func := "loop.example/g03411/laws.FnTurned", spec := "fnTurned", apart := false }
def FnTurnedSaid : Prop := fnTurnedRow.holds Try.pinned (OpenSpec.ofChange fnTurnedSpec)

/-- ITS FALSE NEIGHBOUR: 'it returns false'. Refute it at one input. -/
def fnTurnedWrong : ChangeSpec := { name := "fnTurned", fn := fun _ => fun
  | [d] => { results := [.lit (.bool false)], args := [d] }
  | _ => none }
def FnTurnedWrongFalsely : Prop := fnTurnedRow.holds Try.pinned (OpenSpec.ofChange fnTurnedWrong)

/-- 'laws.FnRing': WHATEVER THE INPUT: true; the input reads as it did. -/
def fnRingSpec : ChangeSpec := { name := "fnRing", fn := fun _ => fun
  | [d] => { results := [.lit (.bool true)], args := [d] }
  | _ => none }
def fnRingRow : OpenClaim := { program := "ytjopanbccfebnaa", sum := "b43054bbe8f1853446e8282086cbd84139dbfa8f6f6379b3d3bdd3169c0b416e", func := "loop.example/g03411/laws.FnRing", spec := "fnRing", apart := false }
def FnRingSaid : Prop := fnRingRow.holds Try.pinned (OpenSpec.ofChange fnRingSpec)

/-- ITS FALSE NEIGHBOUR: 'it returns false'. Refute it at one input. -/
def fnRingWrong : ChangeSpec := { name := "fnRing", fn := fun _ => fun
  | [d] => { results := [.lit (.bool false)], args := [d] }
  | _ => none }
def FnRingWrongFalsely : Prop := fnRingRow.holds Try.pinned (OpenSpec.ofChange fnRingWrong)

/- THE SECOND FORM. 'bulk': how many values and letters a reading holds, each counted each time it is reached (what is shared counts as often as it is met; a slice's spare places count too). A statement '..UptoSaid' is the law's where the arguments, and the package variables that the reading takes, are together of bulk at most 1048576: NARROWER than '..Said'. Prove '..Said' where nothing that the law and all that it calls make is longer than what came in: it says more and counts as full. Else prove '..UptoSaid'. A law counts once. -/
mutual
def uptoBulk {H : Type} : DataW H → Nat
  | .lit (.string bytes) => bytes.length + 1
  | .lit _ => 1
  | .nil => 1
  | .ptr d => uptoBulk d + 1
  | .slice elems spare => uptoBulkAll elems + uptoBulkAll spare + 1
  | .agg parts => uptoBulkAll parts + 1
  | .iface _ d => uptoBulk d + 1
  | .map entries => uptoBulkEntries entries + 1
  | .held _ => 1
def uptoBulkAll {H : Type} : List (DataW H) → Nat
  | [] => 0
  | d :: r => uptoBulk d + uptoBulkAll r
def uptoBulkEntries {H : Type} : List (Lit × DataW H) → Nat
  | [] => 0
  | x :: r => uptoBulkEntry x + uptoBulkEntries r
def uptoBulkEntry {H : Type} : Lit × DataW H → Nat
  | (.string bytes, d) => bytes.length + uptoBulk d + 1
  | (_, d) => uptoBulk d + 1
 end
def uptoSmall : (H : Type) → List (DataW H) → Bool := fun _ ds => decide (uptoBulkAll ds ≤ 1048576)
def OpenSpec.upto (s : _root_.Go.ChangeSpec) : _root_.Go.OpenSpec := { _root_.Go.OpenSpec.ofChange s with cond := some uptoSmall }

/-- 'laws.FnExactWithoutCross', WHERE WHAT IT READS IS OF BULK AT MOST 1048576: true; the input reads as it did. -/
def fnExactWithoutCrossUptoRow : OpenClaim := { program := "ytjopanbccfebnaa", sum := "b43054bbe8f1853446e8282086cbd84139dbfa8f6f6379b3d3bdd3169c0b416e", func := "loop.example/g03411/laws.FnExactWithoutCross", spec := "fnExactWithoutCross", apart := false, narrowed := true }
def FnExactWithoutCrossUptoSaid : Prop := fnExactWithoutCrossUptoRow.holds Try.pinned (OpenSpec.upto fnExactWithoutCrossSpec)

/-- 'laws.FnExactTransposeOf', WHERE WHAT IT READS IS OF BULK AT MOST 1048576: true; the input reads as it did. -/
def fnExactTransposeOfUptoRow : OpenClaim := { program := "ytjopanbccfebnaa", sum := "b43054bbe8f1853446e8282086cbd84139dbfa8f6f6379b3d3bdd3169c0b416e", func := "loop.example/g03411/laws.FnExactTransposeOf", spec := "fnExactTransposeOf", apart := false, narrowed := true }
def FnExactTransposeOfUptoSaid : Prop := fnExactTransposeOfUptoRow.holds Try.pinned (OpenSpec.upto fnExactTransposeOfSpec)

/-- 'laws.FnExactAddMatrices', WHERE WHAT IT READS IS OF BULK AT MOST 1048576: true; the input reads as it did. -/
def fnExactAddMatricesUptoRow : OpenClaim := { program := "ytjopanbccfebnaa", sum := "b43054bbe8f1853446e8282086cbd84139dbfa8f6f6379b3d3bdd3169c0b416e", func := "loop.example/g03411/laws.FnExactAddMatrices", spec := "fnExactAddMatrices", apart := false, narrowed := true }
def FnExactAddMatricesUptoSaid : Prop := fnExactAddMatricesUptoRow.holds Try.pinned (OpenSpec.upto fnExactAddMatricesSpec)

/-- 'laws.FnExactScaleMatrix', WHERE WHAT IT READS IS OF BULK AT MOST 1048576: true; the input reads as it did. -/
def fnExactScaleMatrixUptoRow : OpenClaim := { program := "ytjopanbccfebnaa", sum := "b43054bbe8f1853446e8282086cbd84139dbfa8f6f6379b3d3bdd3169c0b416e", func := "loop.example/g03411/laws.FnExactScaleMatrix", spec := "fnExactScaleMatrix", apart := false, narrowed := true }
def FnExactScaleMatrixUptoSaid : Prop := fnExactScaleMatrixUptoRow.holds Try.pinned (OpenSpec.upto fnExactScaleMatrixSpec)

/-- 'laws.FnExactMultiplyMatrices', WHERE WHAT IT READS IS OF BULK AT MOST 1048576: true; the input reads as it did. -/
def fnExactMultiplyMatricesUptoRow : OpenClaim := { program := "ytjopanbccfebnaa", sum := "b43054bbe8f1853446e8282086cbd84139dbfa8f6f6379b3d3bdd3169c0b416e", func := "loop.example/g03411/laws.FnExactMultiplyMatrices", spec := "fnExactMultiplyMatrices", apart := false, narrowed := true }
def FnExactMultiplyMatricesUptoSaid : Prop := fnExactMultiplyMatricesUptoRow.holds Try.pinned (OpenSpec.upto fnExactMultiplyMatricesSpec)

/-- 'laws.FnTurned', WHERE WHAT IT READS IS OF BULK AT MOST 1048576: true; the input reads as it did. -/
def fnTurnedUptoRow : OpenClaim := { program := "ytjopanbccfebnaa", sum := "b43054bbe8f1853446e8282086cbd84139dbfa8f6f6379b3d3bdd3169c0b416e", func := "loop.example/g03411/laws.FnTurned", spec := "fnTurned", apart := false, narrowed := true }
def FnTurnedUptoSaid : Prop := fnTurnedUptoRow.holds Try.pinned (OpenSpec.upto fnTurnedSpec)

/-- 'laws.FnRing', WHERE WHAT IT READS IS OF BULK AT MOST 1048576: true; the input reads as it did. -/
def fnRingUptoRow : OpenClaim := { program := "ytjopanbccfebnaa", sum := "b43054bbe8f1853446e8282086cbd84139dbfa8f6f6379b3d3bdd3169c0b416e", func := "loop.example/g03411/laws.FnRing", spec := "fnRing", apart := false, narrowed := true }
def FnRingUptoSaid : Prop := fnRingUptoRow.holds Try.pinned (OpenSpec.upto fnRingSpec)

end Rows
end Go.Proofs.Ytjopanbccfebnaa
