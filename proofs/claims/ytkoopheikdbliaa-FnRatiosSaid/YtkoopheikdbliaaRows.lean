/-
  No cell of these rows narrows 'for every input' (looked for: loops, veiled, ifaces, maps, wideKeys, modest, calm, conditions, laid).
  DERIVED. THE GIVEN ROWS OF THIS SEAT. 6 by the template 'for every input the law returns true; each argument reads behind the call as it read before'; 0 by the template 'total and deterministic' (their statements: YtkoopheikdbliaaTotals.lean).
  GIVEN WITH THE SEED: the statements are not yours to turn. If you find one false, say at which input.
  Laid BY PROGRAM, IN A SANDBOX (cutbox-rows.mjs): the forced cells as the released guide's own fill.sh prints them over the translation e497b9e6d20af83c… (all of the seat's roots in one cut). By AI agents, Wed Nov 11 2026. No macro, syntax, notation, axiom, sorry.
-/
import Derived.Test.YtkoopheikdbliaaChecked
import GoSem.Claim
import GoSem.ClaimJoined
import GoSem.ClaimMapViews
import Derived.JoinedTies
import Derived.KernelRfl
namespace Go.Proofs.Ytkoopheikdbliaa
/- THE CELL 'sum', in the pinned program and in every row, IS THE sha256 OF THE DUMP (.gsa) THAT YtkoopheikdbliaaProg.lean LOADS. Nothing in Lean hashes anything: it is a label: what it is worth is what the hold of that sum in a sandbox is worth. -/
noncomputable def Try.pinned : Pinned := { name := "ytkoopheikdbliaa", sum := "e497b9e6d20af83c0533584a2f5430fb1184d8d8c1fb0e7c6830eef32e0a8df0", checked := Try.checked }
namespace Rows
def none {H : Type} : Left H := { results := [], args := [] }

/-- 'laws.FnExactAddRatios': WHATEVER THE INPUT: true; the input reads as it did. -/
def fnExactAddRatiosSpec : ChangeSpec := { name := "fnExactAddRatios", fn := fun _ => fun
  | [d1, d2] => { results := [.lit (.bool true)], args := [d1, d2] }
  | _ => none }
def fnExactAddRatiosRow : OpenClaim := { program := "ytkoopheikdbliaa", sum := "e497b9e6d20af83c0533584a2f5430fb1184d8d8c1fb0e7c6830eef32e0a8df0", func := "loop.example/g03411/laws.FnExactAddRatios", spec := "fnExactAddRatios", apart := false }
def FnExactAddRatiosSaid : Prop := fnExactAddRatiosRow.holds Try.pinned (OpenSpec.ofChange fnExactAddRatiosSpec)

/-- ITS FALSE NEIGHBOUR: 'it returns false'. Refute it at one input. -/
def fnExactAddRatiosWrong : ChangeSpec := { name := "fnExactAddRatios", fn := fun _ => fun
  | [d1, d2] => { results := [.lit (.bool false)], args := [d1, d2] }
  | _ => none }
def FnExactAddRatiosWrongFalsely : Prop := fnExactAddRatiosRow.holds Try.pinned (OpenSpec.ofChange fnExactAddRatiosWrong)

/-- 'laws.FnExactDivideRatios': WHATEVER THE INPUT: true; the input reads as it did. -/
def fnExactDivideRatiosSpec : ChangeSpec := { name := "fnExactDivideRatios", fn := fun _ => fun
  | [d1, d2] => { results := [.lit (.bool true)], args := [d1, d2] }
  | _ => none }
def fnExactDivideRatiosRow : OpenClaim := { program := "ytkoopheikdbliaa", sum := "e497b9e6d20af83c0533584a2f5430fb1184d8d8c1fb0e7c6830eef32e0a8df0", func := "loop.example/g03411/laws.FnExactDivideRatios", spec := "fnExactDivideRatios", apart := false }
def FnExactDivideRatiosSaid : Prop := fnExactDivideRatiosRow.holds Try.pinned (OpenSpec.ofChange fnExactDivideRatiosSpec)

/-- ITS FALSE NEIGHBOUR: 'it returns false'. Refute it at one input. -/
def fnExactDivideRatiosWrong : ChangeSpec := { name := "fnExactDivideRatios", fn := fun _ => fun
  | [d1, d2] => { results := [.lit (.bool false)], args := [d1, d2] }
  | _ => none }
def FnExactDivideRatiosWrongFalsely : Prop := fnExactDivideRatiosRow.holds Try.pinned (OpenSpec.ofChange fnExactDivideRatiosWrong)

/-- 'laws.FnExactMultiplyRatios': WHATEVER THE INPUT: true; the input reads as it did. -/
def fnExactMultiplyRatiosSpec : ChangeSpec := { name := "fnExactMultiplyRatios", fn := fun _ => fun
  | [d1, d2] => { results := [.lit (.bool true)], args := [d1, d2] }
  | _ => none }
def fnExactMultiplyRatiosRow : OpenClaim := { program := "ytkoopheikdbliaa", sum := "e497b9e6d20af83c0533584a2f5430fb1184d8d8c1fb0e7c6830eef32e0a8df0", func := "loop.example/g03411/laws.FnExactMultiplyRatios", spec := "fnExactMultiplyRatios", apart := false }
def FnExactMultiplyRatiosSaid : Prop := fnExactMultiplyRatiosRow.holds Try.pinned (OpenSpec.ofChange fnExactMultiplyRatiosSpec)

/-- ITS FALSE NEIGHBOUR: 'it returns false'. Refute it at one input. -/
def fnExactMultiplyRatiosWrong : ChangeSpec := { name := "fnExactMultiplyRatios", fn := fun _ => fun
  | [d1, d2] => { results := [.lit (.bool false)], args := [d1, d2] }
  | _ => none }
def FnExactMultiplyRatiosWrongFalsely : Prop := fnExactMultiplyRatiosRow.holds Try.pinned (OpenSpec.ofChange fnExactMultiplyRatiosWrong)

/-- 'laws.FnGcd': WHATEVER THE INPUT: true; the input reads as it did. -/
def fnGcdSpec : ChangeSpec := { name := "fnGcd", fn := fun _ => fun
  | [d] => { results := [.lit (.bool true)], args := [d] }
  | _ => none }
def fnGcdRow : OpenClaim := { program := "ytkoopheikdbliaa", sum := "e497b9e6d20af83c0533584a2f5430fb1184d8d8c1fb0e7c6830eef32e0a8df0", func := "loop.example/g03411/laws.FnGcd", spec := "fnGcd", apart := false }
def FnGcdSaid : Prop := fnGcdRow.holds Try.pinned (OpenSpec.ofChange fnGcdSpec)

/-- ITS FALSE NEIGHBOUR: 'it returns false'. Refute it at one input. -/
def fnGcdWrong : ChangeSpec := { name := "fnGcd", fn := fun _ => fun
  | [d] => { results := [.lit (.bool false)], args := [d] }
  | _ => none }
def FnGcdWrongFalsely : Prop := fnGcdRow.holds Try.pinned (OpenSpec.ofChange fnGcdWrong)

/-- 'laws.FnRounds': WHATEVER THE INPUT: true; the input reads as it did. -/
def fnRoundsSpec : ChangeSpec := { name := "fnRounds", fn := fun _ => fun
  | [d] => { results := [.lit (.bool true)], args := [d] }
  | _ => none }
def fnRoundsRow : OpenClaim := { program := "ytkoopheikdbliaa", sum := "e497b9e6d20af83c0533584a2f5430fb1184d8d8c1fb0e7c6830eef32e0a8df0", func := "loop.example/g03411/laws.FnRounds", spec := "fnRounds", apart := false }
def FnRoundsSaid : Prop := fnRoundsRow.holds Try.pinned (OpenSpec.ofChange fnRoundsSpec)

/-- ITS FALSE NEIGHBOUR: 'it returns false'. Refute it at one input. -/
def fnRoundsWrong : ChangeSpec := { name := "fnRounds", fn := fun _ => fun
  | [d] => { results := [.lit (.bool false)], args := [d] }
  | _ => none }
def FnRoundsWrongFalsely : Prop := fnRoundsRow.holds Try.pinned (OpenSpec.ofChange fnRoundsWrong)

/-- 'laws.FnRatios': WHATEVER THE INPUT: true; the input reads as it did. -/
def fnRatiosSpec : ChangeSpec := { name := "fnRatios", fn := fun _ => fun
  | [d] => { results := [.lit (.bool true)], args := [d] }
  | _ => none }
def fnRatiosRow : OpenClaim := { program := "ytkoopheikdbliaa", sum := "e497b9e6d20af83c0533584a2f5430fb1184d8d8c1fb0e7c6830eef32e0a8df0", func := "loop.example/g03411/laws.FnRatios", spec := "fnRatios", apart := false }
def FnRatiosSaid : Prop := fnRatiosRow.holds Try.pinned (OpenSpec.ofChange fnRatiosSpec)

/-- ITS FALSE NEIGHBOUR: 'it returns false'. Refute it at one input. -/
def fnRatiosWrong : ChangeSpec := { name := "fnRatios", fn := fun _ => fun
  | [d] => { results := [.lit (.bool false)], args := [d] }
  | _ => none }
def FnRatiosWrongFalsely : Prop := fnRatiosRow.holds Try.pinned (OpenSpec.ofChange fnRatiosWrong)

/- THE SECOND FORM. 'bulk': how many values and letters a reading holds, each counted each time it is reached (what is shared counts as often as it is met; a slice's spare places count too). A statement '..UptoSaid' is the law's where the arguments, and the package variables that the reading takes, are together of bulk at most 1048576: NARROWER than '..Said'. Prove '..Said' where nothing that the law and all that it calls make is longer than what came in: it says more and counts as full. Else prove '..UptoSaid'. A law counts once. -/
mutual
def uptoBulk {H : Type} : DataW H → Nat
  | .lit (.string bytes) => bytes.length + 1
  | .lit _ => 1
  | .nil => 1
  | .ptr d => uptoBulk d + 1
  | .slice elems spare => uptoBulkAll elems + uptoBulkAll spare + 1
  | .agg parts => uptoBulkAll parts + 1
  | .iface _ d => uptoBulk d + 1
  | .map entries => uptoBulkEntries entries + 1
  | .held _ => 1
def uptoBulkAll {H : Type} : List (DataW H) → Nat
  | [] => 0
  | d :: r => uptoBulk d + uptoBulkAll r
def uptoBulkEntries {H : Type} : List (Lit × DataW H) → Nat
  | [] => 0
  | x :: r => uptoBulkEntry x + uptoBulkEntries r
def uptoBulkEntry {H : Type} : Lit × DataW H → Nat
  | (.string bytes, d) => bytes.length + uptoBulk d + 1
  | (_, d) => uptoBulk d + 1
 end
def uptoSmall : (H : Type) → List (DataW H) → Bool := fun _ ds => decide (uptoBulkAll ds ≤ 1048576)
def OpenSpec.upto (s : _root_.Go.ChangeSpec) : _root_.Go.OpenSpec := { _root_.Go.OpenSpec.ofChange s with cond := some uptoSmall }

/-- 'laws.FnExactAddRatios', WHERE WHAT IT READS IS OF BULK AT MOST 1048576: true; the input reads as it did. -/
def fnExactAddRatiosUptoRow : OpenClaim := { program := "ytkoopheikdbliaa", sum := "e497b9e6d20af83c0533584a2f5430fb1184d8d8c1fb0e7c6830eef32e0a8df0", func := "loop.example/g03411/laws.FnExactAddRatios", spec := "fnExactAddRatios", apart := false, narrowed := true }
def FnExactAddRatiosUptoSaid : Prop := fnExactAddRatiosUptoRow.holds Try.pinned (OpenSpec.upto fnExactAddRatiosSpec)

/-- 'laws.FnExactDivideRatios', WHERE WHAT IT READS IS OF BULK AT MOST 1048576: true; the input reads as it did. -/
def fnExactDivideRatiosUptoRow : OpenClaim := { program := "ytkoopheikdbliaa", sum := "e497b9e6d20af83c0533584a2f5430fb1184d8d8c1fb0e7c6830eef32e0a8df0", func := "loop.example/g03411/laws.FnExactDivideRatios", spec := "fnExactDivideRatios", apart := false, narrowed := true }
def FnExactDivideRatiosUptoSaid : Prop := fnExactDivideRatiosUptoRow.holds Try.pinned (OpenSpec.upto fnExactDivideRatiosSpec)

/-- 'laws.FnExactMultiplyRatios', WHERE WHAT IT READS IS OF BULK AT MOST 1048576: true; the input reads as it did. -/
def fnExactMultiplyRatiosUptoRow : OpenClaim := { program := "ytkoopheikdbliaa", sum := "e497b9e6d20af83c0533584a2f5430fb1184d8d8c1fb0e7c6830eef32e0a8df0", func := "loop.example/g03411/laws.FnExactMultiplyRatios", spec := "fnExactMultiplyRatios", apart := false, narrowed := true }
def FnExactMultiplyRatiosUptoSaid : Prop := fnExactMultiplyRatiosUptoRow.holds Try.pinned (OpenSpec.upto fnExactMultiplyRatiosSpec)

/-- 'laws.FnGcd', WHERE WHAT IT READS IS OF BULK AT MOST 1048576: true; the input reads as it did. -/
def fnGcdUptoRow : OpenClaim := { program := "ytkoopheikdbliaa", sum := "e497b9e6d20af83c0533584a2f5430fb1184d8d8c1fb0e7c6830eef32e0a8df0", func := "loop.example/g03411/laws.FnGcd", spec := "fnGcd", apart := false, narrowed := true }
def FnGcdUptoSaid : Prop := fnGcdUptoRow.holds Try.pinned (OpenSpec.upto fnGcdSpec)

/-- 'laws.FnRounds', WHERE WHAT IT READS IS OF BULK AT MOST 1048576: true; the input reads as it did. -/
def fnRoundsUptoRow : OpenClaim := { program := "ytkoopheikdbliaa", sum := "e497b9e6d20af83c0533584a2f5430fb1184d8d8c1fb0e7c6830eef32e0a8df0", func := "loop.example/g03411/laws.FnRounds", spec := "fnRounds", apart := false, narrowed := true }
def FnRoundsUptoSaid : Prop := fnRoundsUptoRow.holds Try.pinned (OpenSpec.upto fnRoundsSpec)

/-- 'laws.FnRatios', WHERE WHAT IT READS IS OF BULK AT MOST 1048576: true; the input reads as it did. -/
def fnRatiosUptoRow : OpenClaim := { program := "ytkoopheikdbliaa", sum := "e497b9e6d20af83c0533584a2f5430fb1184d8d8c1fb0e7c6830eef32e0a8df0", func := "loop.example/g03411/laws.FnRatios", spec := "fnRatios", apart := false, narrowed := true }
def FnRatiosUptoSaid : Prop := fnRatiosUptoRow.holds Try.pinned (OpenSpec.upto fnRatiosSpec)

end Rows
end Go.Proofs.Ytkoopheikdbliaa
