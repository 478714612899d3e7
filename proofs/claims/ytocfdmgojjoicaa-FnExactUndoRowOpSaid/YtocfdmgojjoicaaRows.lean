/-
  No cell of these rows narrows 'for every input' (looked for: loops, veiled, ifaces, maps, wideKeys, modest, calm, conditions, laid).
  DERIVED. THE GIVEN ROWS OF THIS SEAT. 6 by the template 'for every input the law returns true; each argument reads behind the call as it read before'; 0 by the template 'total and deterministic' (their statements: YtocfdmgojjoicaaTotals.lean).
  GIVEN WITH THE SEED: the statements are not yours to turn. If you find one false, say at which input.
  Laid BY PROGRAM, IN A SANDBOX (cutbox-rows.mjs): the forced cells as the released guide's own fill.sh prints them over the translation b2a3abe36df153af… (all of the seat's roots in one cut). By AI agents, Wed Nov 11 2026. No macro, syntax, notation, axiom, sorry.
-/
import Derived.Test.YtocfdmgojjoicaaChecked
import GoSem.Claim
import GoSem.ClaimJoined
import GoSem.ClaimMapViews
import Derived.JoinedTies
import Derived.KernelRfl
namespace Go.Proofs.Ytocfdmgojjoicaa
/- THE CELL 'sum', in the pinned program and in every row, IS THE sha256 OF THE DUMP (.gsa) THAT YtocfdmgojjoicaaProg.lean LOADS. Nothing in Lean hashes anything: it is a label: what it is worth is what the hold of that sum in a sandbox is worth. -/
noncomputable def Try.pinned : Pinned := { name := "ytocfdmgojjoicaa", sum := "b2a3abe36df153af3905b6094351a0a3ac1140ff41a44361a30c36982a0d4c4b", checked := Try.checked }
namespace Rows
def none {H : Type} : Left H := { results := [], args := [] }

/-- 'laws.FnExactConstants': WHATEVER THE INPUT: true; the input reads as it did. -/
def fnExactConstantsSpec : ChangeSpec := { name := "fnExactConstants", fn := fun _ => fun
  | [] => { results := [.lit (.bool true)], args := [] }
  | _ => none }
def fnExactConstantsRow : OpenClaim := { program := "ytocfdmgojjoicaa", sum := "b2a3abe36df153af3905b6094351a0a3ac1140ff41a44361a30c36982a0d4c4b", func := "loop.example/g03411/laws.FnExactConstants", spec := "fnExactConstants", apart := false }
def FnExactConstantsSaid : Prop := fnExactConstantsRow.holds Try.pinned (OpenSpec.ofChange fnExactConstantsSpec)

/-- ITS FALSE NEIGHBOUR: 'it returns false'. Refute it at one input. -/
def fnExactConstantsWrong : ChangeSpec := { name := "fnExactConstants", fn := fun _ => fun
  | [] => { results := [.lit (.bool false)], args := [] }
  | _ => none }
def FnExactConstantsWrongFalsely : Prop := fnExactConstantsRow.holds Try.pinned (OpenSpec.ofChange fnExactConstantsWrong)

/-- 'laws.FnExactIsNumber': WHATEVER THE INPUT: true; the input reads as it did. -/
def fnExactIsNumberSpec : ChangeSpec := { name := "fnExactIsNumber", fn := fun _ => fun
  | [d] => { results := [.lit (.bool true)], args := [d] }
  | _ => none }
def fnExactIsNumberRow : OpenClaim := { program := "ytocfdmgojjoicaa", sum := "b2a3abe36df153af3905b6094351a0a3ac1140ff41a44361a30c36982a0d4c4b", func := "loop.example/g03411/laws.FnExactIsNumber", spec := "fnExactIsNumber", apart := false }
def FnExactIsNumberSaid : Prop := fnExactIsNumberRow.holds Try.pinned (OpenSpec.ofChange fnExactIsNumberSpec)

/-- ITS FALSE NEIGHBOUR: 'it returns false'. Refute it at one input. -/
def fnExactIsNumberWrong : ChangeSpec := { name := "fnExactIsNumber", fn := fun _ => fun
  | [d] => { results := [.lit (.bool false)], args := [d] }
  | _ => none }
def FnExactIsNumberWrongFalsely : Prop := fnExactIsNumberRow.holds Try.pinned (OpenSpec.ofChange fnExactIsNumberWrong)

/-- 'laws.FnExactGcdOf': WHATEVER THE INPUT: true; the input reads as it did. -/
def fnExactGcdOfSpec : ChangeSpec := { name := "fnExactGcdOf", fn := fun _ => fun
  | [d1, d2] => { results := [.lit (.bool true)], args := [d1, d2] }
  | _ => none }
def fnExactGcdOfRow : OpenClaim := { program := "ytocfdmgojjoicaa", sum := "b2a3abe36df153af3905b6094351a0a3ac1140ff41a44361a30c36982a0d4c4b", func := "loop.example/g03411/laws.FnExactGcdOf", spec := "fnExactGcdOf", apart := false }
def FnExactGcdOfSaid : Prop := fnExactGcdOfRow.holds Try.pinned (OpenSpec.ofChange fnExactGcdOfSpec)

/-- ITS FALSE NEIGHBOUR: 'it returns false'. Refute it at one input. -/
def fnExactGcdOfWrong : ChangeSpec := { name := "fnExactGcdOf", fn := fun _ => fun
  | [d1, d2] => { results := [.lit (.bool false)], args := [d1, d2] }
  | _ => none }
def FnExactGcdOfWrongFalsely : Prop := fnExactGcdOfRow.holds Try.pinned (OpenSpec.ofChange fnExactGcdOfWrong)

/-- 'laws.FnExactUndoRowOp': WHATEVER THE INPUT: true; the input reads as it did. -/
def fnExactUndoRowOpSpec : ChangeSpec := { name := "fnExactUndoRowOp", fn := fun _ => fun
  | [d] => { results := [.lit (.bool true)], args := [d] }
  | _ => none }
def fnExactUndoRowOpRow : OpenClaim := { program := "ytocfdmgojjoicaa", sum := "b2a3abe36df153af3905b6094351a0a3ac1140ff41a44361a30c36982a0d4c4b", func := "loop.example/g03411/laws.FnExactUndoRowOp", spec := "fnExactUndoRowOp", apart := false }
def FnExactUndoRowOpSaid : Prop := fnExactUndoRowOpRow.holds Try.pinned (OpenSpec.ofChange fnExactUndoRowOpSpec)

/-- ITS FALSE NEIGHBOUR: 'it returns false'. Refute it at one input. -/
def fnExactUndoRowOpWrong : ChangeSpec := { name := "fnExactUndoRowOp", fn := fun _ => fun
  | [d] => { results := [.lit (.bool false)], args := [d] }
  | _ => none }
def FnExactUndoRowOpWrongFalsely : Prop := fnExactUndoRowOpRow.holds Try.pinned (OpenSpec.ofChange fnExactUndoRowOpWrong)

/-- 'laws.FnExactIsRowOp': WHATEVER THE INPUT: true; the input reads as it did. -/
def fnExactIsRowOpSpec : ChangeSpec := { name := "fnExactIsRowOp", fn := fun _ => fun
  | [d1, d2] => { results := [.lit (.bool true)], args := [d1, d2] }
  | _ => none }
def fnExactIsRowOpRow : OpenClaim := { program := "ytocfdmgojjoicaa", sum := "b2a3abe36df153af3905b6094351a0a3ac1140ff41a44361a30c36982a0d4c4b", func := "loop.example/g03411/laws.FnExactIsRowOp", spec := "fnExactIsRowOp", apart := false }
def FnExactIsRowOpSaid : Prop := fnExactIsRowOpRow.holds Try.pinned (OpenSpec.ofChange fnExactIsRowOpSpec)

/-- ITS FALSE NEIGHBOUR: 'it returns false'. Refute it at one input. -/
def fnExactIsRowOpWrong : ChangeSpec := { name := "fnExactIsRowOp", fn := fun _ => fun
  | [d1, d2] => { results := [.lit (.bool false)], args := [d1, d2] }
  | _ => none }
def FnExactIsRowOpWrongFalsely : Prop := fnExactIsRowOpRow.holds Try.pinned (OpenSpec.ofChange fnExactIsRowOpWrong)

/-- 'laws.FnExactDivideFloor': WHATEVER THE INPUT: true; the input reads as it did. -/
def fnExactDivideFloorSpec : ChangeSpec := { name := "fnExactDivideFloor", fn := fun _ => fun
  | [d1, d2] => { results := [.lit (.bool true)], args := [d1, d2] }
  | _ => none }
def fnExactDivideFloorRow : OpenClaim := { program := "ytocfdmgojjoicaa", sum := "b2a3abe36df153af3905b6094351a0a3ac1140ff41a44361a30c36982a0d4c4b", func := "loop.example/g03411/laws.FnExactDivideFloor", spec := "fnExactDivideFloor", apart := false }
def FnExactDivideFloorSaid : Prop := fnExactDivideFloorRow.holds Try.pinned (OpenSpec.ofChange fnExactDivideFloorSpec)

/-- ITS FALSE NEIGHBOUR: 'it returns false'. Refute it at one input. -/
def fnExactDivideFloorWrong : ChangeSpec := { name := "fnExactDivideFloor", fn := fun _ => fun
  | [d1, d2] => { results := [.lit (.bool false)], args := [d1, d2] }
  | _ => none }
def FnExactDivideFloorWrongFalsely : Prop := fnExactDivideFloorRow.holds Try.pinned (OpenSpec.ofChange fnExactDivideFloorWrong)

/- THE SECOND FORM. 'bulk': how many values and letters a reading holds, each counted each time it is reached (what is shared counts as often as it is met; a slice's spare places count too). A statement '..UptoSaid' is the law's where the arguments, and the package variables that the reading takes, are together of bulk at most 1048576: NARROWER than '..Said'. Prove '..Said' where nothing that the law and all that it calls make is longer than what came in: it says more and counts as full. Else prove '..UptoSaid'. A law counts once. -/
mutual
def uptoBulk {H : Type} : DataW H → Nat
  | .lit (.string bytes) => bytes.length + 1
  | .lit _ => 1
  | .nil => 1
  | .ptr d => uptoBulk d + 1
  | .slice elems spare => uptoBulkAll elems + uptoBulkAll spare + 1
  | .agg parts => uptoBulkAll parts + 1
  | .iface _ d => uptoBulk d + 1
  | .map entries => uptoBulkEntries entries + 1
  | .held _ => 1
def uptoBulkAll {H : Type} : List (DataW H) → Nat
  | [] => 0
  | d :: r => uptoBulk d + uptoBulkAll r
def uptoBulkEntries {H : Type} : List (Lit × DataW H) → Nat
  | [] => 0
  | x :: r => uptoBulkEntry x + uptoBulkEntries r
def uptoBulkEntry {H : Type} : Lit × DataW H → Nat
  | (.string bytes, d) => bytes.length + uptoBulk d + 1
  | (_, d) => uptoBulk d + 1
 end
def uptoSmall : (H : Type) → List (DataW H) → Bool := fun _ ds => decide (uptoBulkAll ds ≤ 1048576)
def OpenSpec.upto (s : _root_.Go.ChangeSpec) : _root_.Go.OpenSpec := { _root_.Go.OpenSpec.ofChange s with cond := some uptoSmall }

/-- 'laws.FnExactConstants', WHERE WHAT IT READS IS OF BULK AT MOST 1048576: true; the input reads as it did. -/
def fnExactConstantsUptoRow : OpenClaim := { program := "ytocfdmgojjoicaa", sum := "b2a3abe36df153af3905b6094351a0a3ac1140ff41a44361a30c36982a0d4c4b", func := "loop.example/g03411/laws.FnExactConstants", spec := "fnExactConstants", apart := false, narrowed := true }
def FnExactConstantsUptoSaid : Prop := fnExactConstantsUptoRow.holds Try.pinned (OpenSpec.upto fnExactConstantsSpec)

/-- 'laws.FnExactIsNumber', WHERE WHAT IT READS IS OF BULK AT MOST 1048576: true; the input reads as it did. -/
def fnExactIsNumberUptoRow : OpenClaim := { program := "ytocfdmgojjoicaa", sum := "b2a3abe36df153af3905b6094351a0a3ac1140ff41a44361a30c36982a0d4c4b", func := "loop.example/g03411/laws.FnExactIsNumber", spec := "fnExactIsNumber", apart := false, narrowed := true }
def FnExactIsNumberUptoSaid : Prop := fnExactIsNumberUptoRow.holds Try.pinned (OpenSpec.upto fnExactIsNumberSpec)

/-- 'laws.FnExactGcdOf', WHERE WHAT IT READS IS OF BULK AT MOST 1048576: true; the input reads as it did. -/
def fnExactGcdOfUptoRow : OpenClaim := { program := "ytocfdmgojjoicaa", sum := "b2a3abe36df153af3905b6094351a0a3ac1140ff41a44361a30c36982a0d4c4b", func := "loop.example/g03411/laws.FnExactGcdOf", spec := "fnExactGcdOf", apart := false, narrowed := true }
def FnExactGcdOfUptoSaid : Prop := fnExactGcdOfUptoRow.holds Try.pinned (OpenSpec.upto fnExactGcdOfSpec)

/-- 'laws.FnExactUndoRowOp', WHERE WHAT IT READS IS OF BULK AT MOST 1048576: true; the input reads as it did. -/
def fnExactUndoRowOpUptoRow : OpenClaim := { program := "ytocfdmgojjoicaa", sum := "b2a3abe36df153af3905b6094351a0a3ac1140ff41a44361a30c36982a0d4c4b", func := "loop.example/g03411/laws.FnExactUndoRowOp", spec := "fnExactUndoRowOp", apart := false, narrowed := true }
def FnExactUndoRowOpUptoSaid : Prop := fnExactUndoRowOpUptoRow.holds Try.pinned (OpenSpec.upto fnExactUndoRowOpSpec)

/-- 'laws.FnExactIsRowOp', WHERE WHAT IT READS IS OF BULK AT MOST 1048576: true; the input reads as it did. -/
def fnExactIsRowOpUptoRow : OpenClaim := { program := "ytocfdmgojjoicaa", sum := "b2a3abe36df153af3905b6094351a0a3ac1140ff41a44361a30c36982a0d4c4b", func := "loop.example/g03411/laws.FnExactIsRowOp", spec := "fnExactIsRowOp", apart := false, narrowed := true }
def FnExactIsRowOpUptoSaid : Prop := fnExactIsRowOpUptoRow.holds Try.pinned (OpenSpec.upto fnExactIsRowOpSpec)

/-- 'laws.FnExactDivideFloor', WHERE WHAT IT READS IS OF BULK AT MOST 1048576: true; the input reads as it did. -/
def fnExactDivideFloorUptoRow : OpenClaim := { program := "ytocfdmgojjoicaa", sum := "b2a3abe36df153af3905b6094351a0a3ac1140ff41a44361a30c36982a0d4c4b", func := "loop.example/g03411/laws.FnExactDivideFloor", spec := "fnExactDivideFloor", apart := false, narrowed := true }
def FnExactDivideFloorUptoSaid : Prop := fnExactDivideFloorUptoRow.holds Try.pinned (OpenSpec.upto fnExactDivideFloorSpec)

end Rows
end Go.Proofs.Ytocfdmgojjoicaa
