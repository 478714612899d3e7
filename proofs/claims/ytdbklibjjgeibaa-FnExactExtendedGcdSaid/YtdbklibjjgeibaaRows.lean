/-
  No cell of these rows narrows 'for every input' (looked for: loops, veiled, ifaces, maps, wideKeys, modest, calm, conditions, laid).
  DERIVED. THE GIVEN ROWS OF THIS SEAT. 7 by the template 'for every input the law returns true; each argument reads behind the call as it read before'; 0 by the template 'total and deterministic' (their statements: YtdbklibjjgeibaaTotals.lean).
  GIVEN WITH THE SEED: the statements are not yours to turn. If you find one false, say at which input.
  Laid BY PROGRAM, IN A SANDBOX (cutbox-rows.mjs): the forced cells as the released guide's own fill.sh prints them over the translation 713d21348ccb337b… (all of the seat's roots in one cut). By AI agents, Wed Nov 11 2026. No macro, syntax, notation, axiom, sorry.
-/
import Derived.Test.YtdbklibjjgeibaaChecked
import GoSem.Claim
import GoSem.ClaimJoined
import GoSem.ClaimMapViews
import Derived.JoinedTies
import Derived.KernelRfl
namespace Go.Proofs.Ytdbklibjjgeibaa
/- THE CELL 'sum', in the pinned program and in every row, IS THE sha256 OF THE DUMP (.gsa) THAT YtdbklibjjgeibaaProg.lean LOADS. Nothing in Lean hashes anything: it is a label: what it is worth is what the hold of that sum in a sandbox is worth. -/
noncomputable def Try.pinned : Pinned := { name := "ytdbklibjjgeibaa", sum := "713d21348ccb337b200337d952b32b56d8e40af829d0b6b7b4bce129747da487", checked := Try.checked }
namespace Rows
def none {H : Type} : Left H := { results := [], args := [] }

/-- 'laws.FnExactIsRatio': WHATEVER THE INPUT: true; the input reads as it did. -/
def fnExactIsRatioSpec : ChangeSpec := { name := "fnExactIsRatio", fn := fun _ => fun
  | [d] => { results := [.lit (.bool true)], args := [d] }
  | _ => none }
def fnExactIsRatioRow : OpenClaim := { program := "ytdbklibjjgeibaa", sum := "713d21348ccb337b200337d952b32b56d8e40af829d0b6b7b4bce129747da487", func := "loop.example/g03411/laws.FnExactIsRatio", spec := "fnExactIsRatio", apart := false }
def FnExactIsRatioSaid : Prop := fnExactIsRatioRow.holds Try.pinned (OpenSpec.ofChange fnExactIsRatioSpec)

/-- ITS FALSE NEIGHBOUR: 'it returns false'. Refute it at one input. -/
def fnExactIsRatioWrong : ChangeSpec := { name := "fnExactIsRatio", fn := fun _ => fun
  | [d] => { results := [.lit (.bool false)], args := [d] }
  | _ => none }
def FnExactIsRatioWrongFalsely : Prop := fnExactIsRatioRow.holds Try.pinned (OpenSpec.ofChange fnExactIsRatioWrong)

/-- 'laws.FnExactExtendedGcd': WHATEVER THE INPUT: true; the input reads as it did. -/
def fnExactExtendedGcdSpec : ChangeSpec := { name := "fnExactExtendedGcd", fn := fun _ => fun
  | [d1, d2] => { results := [.lit (.bool true)], args := [d1, d2] }
  | _ => none }
def fnExactExtendedGcdRow : OpenClaim := { program := "ytdbklibjjgeibaa", sum := "713d21348ccb337b200337d952b32b56d8e40af829d0b6b7b4bce129747da487", func := "loop.example/g03411/laws.FnExactExtendedGcd", spec := "fnExactExtendedGcd", apart := false }
def FnExactExtendedGcdSaid : Prop := fnExactExtendedGcdRow.holds Try.pinned (OpenSpec.ofChange fnExactExtendedGcdSpec)

/-- ITS FALSE NEIGHBOUR: 'it returns false'. Refute it at one input. -/
def fnExactExtendedGcdWrong : ChangeSpec := { name := "fnExactExtendedGcd", fn := fun _ => fun
  | [d1, d2] => { results := [.lit (.bool false)], args := [d1, d2] }
  | _ => none }
def FnExactExtendedGcdWrongFalsely : Prop := fnExactExtendedGcdRow.holds Try.pinned (OpenSpec.ofChange fnExactExtendedGcdWrong)

/-- 'laws.FnExactNegateRatio': WHATEVER THE INPUT: true; the input reads as it did. -/
def fnExactNegateRatioSpec : ChangeSpec := { name := "fnExactNegateRatio", fn := fun _ => fun
  | [d] => { results := [.lit (.bool true)], args := [d] }
  | _ => none }
def fnExactNegateRatioRow : OpenClaim := { program := "ytdbklibjjgeibaa", sum := "713d21348ccb337b200337d952b32b56d8e40af829d0b6b7b4bce129747da487", func := "loop.example/g03411/laws.FnExactNegateRatio", spec := "fnExactNegateRatio", apart := false }
def FnExactNegateRatioSaid : Prop := fnExactNegateRatioRow.holds Try.pinned (OpenSpec.ofChange fnExactNegateRatioSpec)

/-- ITS FALSE NEIGHBOUR: 'it returns false'. Refute it at one input. -/
def fnExactNegateRatioWrong : ChangeSpec := { name := "fnExactNegateRatio", fn := fun _ => fun
  | [d] => { results := [.lit (.bool false)], args := [d] }
  | _ => none }
def FnExactNegateRatioWrongFalsely : Prop := fnExactNegateRatioRow.holds Try.pinned (OpenSpec.ofChange fnExactNegateRatioWrong)

/-- 'laws.FnExactFloorRatio': WHATEVER THE INPUT: true; the input reads as it did. -/
def fnExactFloorRatioSpec : ChangeSpec := { name := "fnExactFloorRatio", fn := fun _ => fun
  | [d] => { results := [.lit (.bool true)], args := [d] }
  | _ => none }
def fnExactFloorRatioRow : OpenClaim := { program := "ytdbklibjjgeibaa", sum := "713d21348ccb337b200337d952b32b56d8e40af829d0b6b7b4bce129747da487", func := "loop.example/g03411/laws.FnExactFloorRatio", spec := "fnExactFloorRatio", apart := false }
def FnExactFloorRatioSaid : Prop := fnExactFloorRatioRow.holds Try.pinned (OpenSpec.ofChange fnExactFloorRatioSpec)

/-- ITS FALSE NEIGHBOUR: 'it returns false'. Refute it at one input. -/
def fnExactFloorRatioWrong : ChangeSpec := { name := "fnExactFloorRatio", fn := fun _ => fun
  | [d] => { results := [.lit (.bool false)], args := [d] }
  | _ => none }
def FnExactFloorRatioWrongFalsely : Prop := fnExactFloorRatioRow.holds Try.pinned (OpenSpec.ofChange fnExactFloorRatioWrong)

/-- 'laws.FnExactRoundRatio': WHATEVER THE INPUT: true; the input reads as it did. -/
def fnExactRoundRatioSpec : ChangeSpec := { name := "fnExactRoundRatio", fn := fun _ => fun
  | [d] => { results := [.lit (.bool true)], args := [d] }
  | _ => none }
def fnExactRoundRatioRow : OpenClaim := { program := "ytdbklibjjgeibaa", sum := "713d21348ccb337b200337d952b32b56d8e40af829d0b6b7b4bce129747da487", func := "loop.example/g03411/laws.FnExactRoundRatio", spec := "fnExactRoundRatio", apart := false }
def FnExactRoundRatioSaid : Prop := fnExactRoundRatioRow.holds Try.pinned (OpenSpec.ofChange fnExactRoundRatioSpec)

/-- ITS FALSE NEIGHBOUR: 'it returns false'. Refute it at one input. -/
def fnExactRoundRatioWrong : ChangeSpec := { name := "fnExactRoundRatio", fn := fun _ => fun
  | [d] => { results := [.lit (.bool false)], args := [d] }
  | _ => none }
def FnExactRoundRatioWrongFalsely : Prop := fnExactRoundRatioRow.holds Try.pinned (OpenSpec.ofChange fnExactRoundRatioWrong)

/-- 'laws.FnExactCompareRatios': WHATEVER THE INPUT: true; the input reads as it did. -/
def fnExactCompareRatiosSpec : ChangeSpec := { name := "fnExactCompareRatios", fn := fun _ => fun
  | [d1, d2] => { results := [.lit (.bool true)], args := [d1, d2] }
  | _ => none }
def fnExactCompareRatiosRow : OpenClaim := { program := "ytdbklibjjgeibaa", sum := "713d21348ccb337b200337d952b32b56d8e40af829d0b6b7b4bce129747da487", func := "loop.example/g03411/laws.FnExactCompareRatios", spec := "fnExactCompareRatios", apart := false }
def FnExactCompareRatiosSaid : Prop := fnExactCompareRatiosRow.holds Try.pinned (OpenSpec.ofChange fnExactCompareRatiosSpec)

/-- ITS FALSE NEIGHBOUR: 'it returns false'. Refute it at one input. -/
def fnExactCompareRatiosWrong : ChangeSpec := { name := "fnExactCompareRatios", fn := fun _ => fun
  | [d1, d2] => { results := [.lit (.bool false)], args := [d1, d2] }
  | _ => none }
def FnExactCompareRatiosWrongFalsely : Prop := fnExactCompareRatiosRow.holds Try.pinned (OpenSpec.ofChange fnExactCompareRatiosWrong)

/-- 'laws.FnExactMakeRatio': WHATEVER THE INPUT: true; the input reads as it did. -/
def fnExactMakeRatioSpec : ChangeSpec := { name := "fnExactMakeRatio", fn := fun _ => fun
  | [d1, d2] => { results := [.lit (.bool true)], args := [d1, d2] }
  | _ => none }
def fnExactMakeRatioRow : OpenClaim := { program := "ytdbklibjjgeibaa", sum := "713d21348ccb337b200337d952b32b56d8e40af829d0b6b7b4bce129747da487", func := "loop.example/g03411/laws.FnExactMakeRatio", spec := "fnExactMakeRatio", apart := false }
def FnExactMakeRatioSaid : Prop := fnExactMakeRatioRow.holds Try.pinned (OpenSpec.ofChange fnExactMakeRatioSpec)

/-- ITS FALSE NEIGHBOUR: 'it returns false'. Refute it at one input. -/
def fnExactMakeRatioWrong : ChangeSpec := { name := "fnExactMakeRatio", fn := fun _ => fun
  | [d1, d2] => { results := [.lit (.bool false)], args := [d1, d2] }
  | _ => none }
def FnExactMakeRatioWrongFalsely : Prop := fnExactMakeRatioRow.holds Try.pinned (OpenSpec.ofChange fnExactMakeRatioWrong)

/- THE SECOND FORM. 'bulk': how many values and letters a reading holds, each counted each time it is reached (what is shared counts as often as it is met; a slice's spare places count too). A statement '..UptoSaid' is the law's where the arguments, and the package variables that the reading takes, are together of bulk at most 1048576: NARROWER than '..Said'. Prove '..Said' where nothing that the law and all that it calls make is longer than what came in: it says more and counts as full. Else prove '..UptoSaid'. A law counts once. -/
mutual
def uptoBulk {H : Type} : DataW H → Nat
  | .lit (.string bytes) => bytes.length + 1
  | .lit _ => 1
  | .nil => 1
  | .ptr d => uptoBulk d + 1
  | .slice elems spare => uptoBulkAll elems + uptoBulkAll spare + 1
  | .agg parts => uptoBulkAll parts + 1
  | .iface _ d => uptoBulk d + 1
  | .map entries => uptoBulkEntries entries + 1
  | .held _ => 1
def uptoBulkAll {H : Type} : List (DataW H) → Nat
  | [] => 0
  | d :: r => uptoBulk d + uptoBulkAll r
def uptoBulkEntries {H : Type} : List (Lit × DataW H) → Nat
  | [] => 0
  | x :: r => uptoBulkEntry x + uptoBulkEntries r
def uptoBulkEntry {H : Type} : Lit × DataW H → Nat
  | (.string bytes, d) => bytes.length + uptoBulk d + 1
  | (_, d) => uptoBulk d + 1
 end
def uptoSmall : (H : Type) → List (DataW H) → Bool := fun _ ds => decide (uptoBulkAll ds ≤ 1048576)
def OpenSpec.upto (s : _root_.Go.ChangeSpec) : _root_.Go.OpenSpec := { _root_.Go.OpenSpec.ofChange s with cond := some uptoSmall }

/-- 'laws.FnExactIsRatio', WHERE WHAT IT READS IS OF BULK AT MOST 1048576: true; the input reads as it did. -/
def fnExactIsRatioUptoRow : OpenClaim := { program := "ytdbklibjjgeibaa", sum := "713d21348ccb337b200337d952b32b56d8e40af829d0b6b7b4bce129747da487", func := "loop.example/g03411/laws.FnExactIsRatio", spec := "fnExactIsRatio", apart := false, narrowed := true }
def FnExactIsRatioUptoSaid : Prop := fnExactIsRatioUptoRow.holds Try.pinned (OpenSpec.upto fnExactIsRatioSpec)

/-- 'laws.FnExactExtendedGcd', WHERE WHAT IT READS IS OF BULK AT MOST 1048576: true; the input reads as it did. -/
def fnExactExtendedGcdUptoRow : OpenClaim := { program := "ytdbklibjjgeibaa", sum := "713d21348ccb337b200337d952b32b56d8e40af829d0b6b7b4bce129747da487", func := "loop.example/g03411/laws.FnExactExtendedGcd", spec := "fnExactExtendedGcd", apart := false, narrowed := true }
def FnExactExtendedGcdUptoSaid : Prop := fnExactExtendedGcdUptoRow.holds Try.pinned (OpenSpec.upto fnExactExtendedGcdSpec)

/-- 'laws.FnExactNegateRatio', WHERE WHAT IT READS IS OF BULK AT MOST 1048576: true; the input reads as it did. -/
def fnExactNegateRatioUptoRow : OpenClaim := { program := "ytdbklibjjgeibaa", sum := "713d21348ccb337b200337d952b32b56d8e40af829d0b6b7b4bce129747da487", func := "loop.example/g03411/laws.FnExactNegateRatio", spec := "fnExactNegateRatio", apart := false, narrowed := true }
def FnExactNegateRatioUptoSaid : Prop := fnExactNegateRatioUptoRow.holds Try.pinned (OpenSpec.upto fnExactNegateRatioSpec)

/-- 'laws.FnExactFloorRatio', WHERE WHAT IT READS IS OF BULK AT MOST 1048576: true; the input reads as it did. -/
def fnExactFloorRatioUptoRow : OpenClaim := { program := "ytdbklibjjgeibaa", sum := "713d21348ccb337b200337d952b32b56d8e40af829d0b6b7b4bce129747da487", func := "loop.example/g03411/laws.FnExactFloorRatio", spec := "fnExactFloorRatio", apart := false, narrowed := true }
def FnExactFloorRatioUptoSaid : Prop := fnExactFloorRatioUptoRow.holds Try.pinned (OpenSpec.upto fnExactFloorRatioSpec)

/-- 'laws.FnExactRoundRatio', WHERE WHAT IT READS IS OF BULK AT MOST 1048576: true; the input reads as it did. -/
def fnExactRoundRatioUptoRow : OpenClaim := { program := "ytdbklibjjgeibaa", sum := "713d21348ccb337b200337d952b32b56d8e40af829d0b6b7b4bce129747da487", func := "loop.example/g03411/laws.FnExactRoundRatio", spec := "fnExactRoundRatio", apart := false, narrowed := true }
def FnExactRoundRatioUptoSaid : Prop := fnExactRoundRatioUptoRow.holds Try.pinned (OpenSpec.upto fnExactRoundRatioSpec)

/-- 'laws.FnExactCompareRatios', WHERE WHAT IT READS IS OF BULK AT MOST 1048576: true; the input reads as it did. -/
def fnExactCompareRatiosUptoRow : OpenClaim := { program := "ytdbklibjjgeibaa", sum := "713d21348ccb337b200337d952b32b56d8e40af829d0b6b7b4bce129747da487", func := "loop.example/g03411/laws.FnExactCompareRatios", spec := "fnExactCompareRatios", apart := false, narrowed := true }
def FnExactCompareRatiosUptoSaid : Prop := fnExactCompareRatiosUptoRow.holds Try.pinned (OpenSpec.upto fnExactCompareRatiosSpec)

/-- 'laws.FnExactMakeRatio', WHERE WHAT IT READS IS OF BULK AT MOST 1048576: true; the input reads as it did. -/
def fnExactMakeRatioUptoRow : OpenClaim := { program := "ytdbklibjjgeibaa", sum := "713d21348ccb337b200337d952b32b56d8e40af829d0b6b7b4bce129747da487", func := "loop.example/g03411/laws.FnExactMakeRatio", spec := "fnExactMakeRatio", apart := false, narrowed := true }
def FnExactMakeRatioUptoSaid : Prop := fnExactMakeRatioUptoRow.holds Try.pinned (OpenSpec.upto fnExactMakeRatioSpec)

end Rows
end Go.Proofs.Ytdbklibjjgeibaa
