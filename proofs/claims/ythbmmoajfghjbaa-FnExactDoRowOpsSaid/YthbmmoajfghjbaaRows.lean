/-
  No cell of these rows narrows 'for every input' (looked for: loops, veiled, ifaces, maps, wideKeys, modest, calm, conditions, laid).
  DERIVED. THE GIVEN ROWS OF THIS SEAT. 4 by the template 'for every input the law returns true; each argument reads behind the call as it read before'; 0 by the template 'total and deterministic' (their statements: YthbmmoajfghjbaaTotals.lean).
  GIVEN WITH THE SEED: the statements are not yours to turn. If you find one false, say at which input.
  Laid BY PROGRAM, IN A SANDBOX (cutbox-rows.mjs): the forced cells as the released guide's own fill.sh prints them over the translation ced4c65960adc9b2… (all of the seat's roots in one cut). By AI agents, Wed Nov 11 2026. No macro, syntax, notation, axiom, sorry.
-/
import Derived.Test.YthbmmoajfghjbaaChecked
import GoSem.Claim
import GoSem.ClaimJoined
import GoSem.ClaimMapViews
import Derived.JoinedTies
import Derived.KernelRfl
namespace Go.Proofs.Ythbmmoajfghjbaa
/- THE CELL 'sum', in the pinned program and in every row, IS THE sha256 OF THE DUMP (.gsa) THAT YthbmmoajfghjbaaProg.lean LOADS. Nothing in Lean hashes anything: it is a label: what it is worth is what the hold of that sum in a sandbox is worth. -/
noncomputable def Try.pinned : Pinned := { name := "ythbmmoajfghjbaa", sum := "ced4c65960adc9b2e69461573a576a6e86722e1eec0ef8dc0eca43b786ccfef8", checked := Try.checked }
namespace Rows
def none {H : Type} : Left H := { results := [], args := [] }

/-- 'laws.FnExactUndoRowOps': WHATEVER THE INPUT: true; the input reads as it did. -/
def fnExactUndoRowOpsSpec : ChangeSpec := { name := "fnExactUndoRowOps", fn := fun _ => fun
  | [d] => { results := [.lit (.bool true)], args := [d] }
  | _ => none }
def fnExactUndoRowOpsRow : OpenClaim := { program := "ythbmmoajfghjbaa", sum := "ced4c65960adc9b2e69461573a576a6e86722e1eec0ef8dc0eca43b786ccfef8", func := "loop.example/g03411/laws.FnExactUndoRowOps", spec := "fnExactUndoRowOps", apart := false }
def FnExactUndoRowOpsSaid : Prop := fnExactUndoRowOpsRow.holds Try.pinned (OpenSpec.ofChange fnExactUndoRowOpsSpec)

/-- ITS FALSE NEIGHBOUR: 'it returns false'. Refute it at one input. -/
def fnExactUndoRowOpsWrong : ChangeSpec := { name := "fnExactUndoRowOps", fn := fun _ => fun
  | [d] => { results := [.lit (.bool false)], args := [d] }
  | _ => none }
def FnExactUndoRowOpsWrongFalsely : Prop := fnExactUndoRowOpsRow.holds Try.pinned (OpenSpec.ofChange fnExactUndoRowOpsWrong)

/-- 'laws.FnExactDoRowOp': WHATEVER THE INPUT: true; the input reads as it did. -/
def fnExactDoRowOpSpec : ChangeSpec := { name := "fnExactDoRowOp", fn := fun _ => fun
  | [d1, d2] => { results := [.lit (.bool true)], args := [d1, d2] }
  | _ => none }
def fnExactDoRowOpRow : OpenClaim := { program := "ythbmmoajfghjbaa", sum := "ced4c65960adc9b2e69461573a576a6e86722e1eec0ef8dc0eca43b786ccfef8", func := "loop.example/g03411/laws.FnExactDoRowOp", spec := "fnExactDoRowOp", apart := false }
def FnExactDoRowOpSaid : Prop := fnExactDoRowOpRow.holds Try.pinned (OpenSpec.ofChange fnExactDoRowOpSpec)

/-- ITS FALSE NEIGHBOUR: 'it returns false'. Refute it at one input. -/
def fnExactDoRowOpWrong : ChangeSpec := { name := "fnExactDoRowOp", fn := fun _ => fun
  | [d1, d2] => { results := [.lit (.bool false)], args := [d1, d2] }
  | _ => none }
def FnExactDoRowOpWrongFalsely : Prop := fnExactDoRowOpRow.holds Try.pinned (OpenSpec.ofChange fnExactDoRowOpWrong)

/-- 'laws.FnExactOpMatrix': WHATEVER THE INPUT: true; the input reads as it did. -/
def fnExactOpMatrixSpec : ChangeSpec := { name := "fnExactOpMatrix", fn := fun _ => fun
  | [d1, d2] => { results := [.lit (.bool true)], args := [d1, d2] }
  | _ => none }
def fnExactOpMatrixRow : OpenClaim := { program := "ythbmmoajfghjbaa", sum := "ced4c65960adc9b2e69461573a576a6e86722e1eec0ef8dc0eca43b786ccfef8", func := "loop.example/g03411/laws.FnExactOpMatrix", spec := "fnExactOpMatrix", apart := false }
def FnExactOpMatrixSaid : Prop := fnExactOpMatrixRow.holds Try.pinned (OpenSpec.ofChange fnExactOpMatrixSpec)

/-- ITS FALSE NEIGHBOUR: 'it returns false'. Refute it at one input. -/
def fnExactOpMatrixWrong : ChangeSpec := { name := "fnExactOpMatrix", fn := fun _ => fun
  | [d1, d2] => { results := [.lit (.bool false)], args := [d1, d2] }
  | _ => none }
def FnExactOpMatrixWrongFalsely : Prop := fnExactOpMatrixRow.holds Try.pinned (OpenSpec.ofChange fnExactOpMatrixWrong)

/-- 'laws.FnExactDoRowOps': WHATEVER THE INPUT: true; the input reads as it did. -/
def fnExactDoRowOpsSpec : ChangeSpec := { name := "fnExactDoRowOps", fn := fun _ => fun
  | [d1, d2] => { results := [.lit (.bool true)], args := [d1, d2] }
  | _ => none }
def fnExactDoRowOpsRow : OpenClaim := { program := "ythbmmoajfghjbaa", sum := "ced4c65960adc9b2e69461573a576a6e86722e1eec0ef8dc0eca43b786ccfef8", func := "loop.example/g03411/laws.FnExactDoRowOps", spec := "fnExactDoRowOps", apart := false }
def FnExactDoRowOpsSaid : Prop := fnExactDoRowOpsRow.holds Try.pinned (OpenSpec.ofChange fnExactDoRowOpsSpec)

/-- ITS FALSE NEIGHBOUR: 'it returns false'. Refute it at one input. -/
def fnExactDoRowOpsWrong : ChangeSpec := { name := "fnExactDoRowOps", fn := fun _ => fun
  | [d1, d2] => { results := [.lit (.bool false)], args := [d1, d2] }
  | _ => none }
def FnExactDoRowOpsWrongFalsely : Prop := fnExactDoRowOpsRow.holds Try.pinned (OpenSpec.ofChange fnExactDoRowOpsWrong)

/- THE SECOND FORM. 'bulk': how many values and letters a reading holds, each counted each time it is reached (what is shared counts as often as it is met; a slice's spare places count too). A statement '..UptoSaid' is the law's where the arguments, and the package variables that the reading takes, are together of bulk at most 1048576: NARROWER than '..Said'. Prove '..Said' where nothing that the law and all that it calls make is longer than what came in: it says more and counts as full. Else prove '..UptoSaid'. A law counts once. -/
mutual
def uptoBulk {H : Type} : DataW H → Nat
  | .lit (.string bytes) => bytes.length + 1
  | .lit _ => 1
  | .nil => 1
  | .ptr d => uptoBulk d + 1
  | .slice elems spare => uptoBulkAll elems + uptoBulkAll spare + 1
  | .agg parts => uptoBulkAll parts + 1
  | .iface _ d => uptoBulk d + 1
  | .map entries => uptoBulkEntries entries + 1
  | .held _ => 1
def uptoBulkAll {H : Type} : List (DataW H) → Nat
  | [] => 0
  | d :: r => uptoBulk d + uptoBulkAll r
def uptoBulkEntries {H : Type} : List (Lit × DataW H) → Nat
  | [] => 0
  | x :: r => uptoBulkEntry x + uptoBulkEntries r
def uptoBulkEntry {H : Type} : Lit × DataW H → Nat
  | (.string bytes, d) => bytes.length + uptoBulk d + 1
  | (_, d) => uptoBulk d + 1
 end
def uptoSmall : (H : Type) → List (DataW H) → Bool := fun _ ds => decide (uptoBulkAll ds ≤ 1048576)
def OpenSpec.upto (s : _root_.Go.ChangeSpec) : _root_.Go.OpenSpec := { _root_.Go.OpenSpec.ofChange s with cond := some uptoSmall }

/-- 'laws.FnExactUndoRowOps', WHERE WHAT IT READS IS OF BULK AT MOST 1048576: true; the input reads as it did. -/
def fnExactUndoRowOpsUptoRow : OpenClaim := { program := "ythbmmoajfghjbaa", sum := "ced4c65960adc9b2e69461573a576a6e86722e1eec0ef8dc0eca43b786ccfef8", func := "loop.example/g03411/laws.FnExactUndoRowOps", spec := "fnExactUndoRowOps", apart := false, narrowed := true }
def FnExactUndoRowOpsUptoSaid : Prop := fnExactUndoRowOpsUptoRow.holds Try.pinned (OpenSpec.upto fnExactUndoRowOpsSpec)

/-- 'laws.FnExactDoRowOp', WHERE WHAT IT READS IS OF BULK AT MOST 1048576: true; the input reads as it did. -/
def fnExactDoRowOpUptoRow : OpenClaim := { program := "ythbmmoajfghjbaa", sum := "ced4c65960adc9b2e69461573a576a6e86722e1eec0ef8dc0eca43b786ccfef8", func := "loop.example/g03411/laws.FnExactDoRowOp", spec := "fnExactDoRowOp", apart := false, narrowed := true }
def FnExactDoRowOpUptoSaid : Prop := fnExactDoRowOpUptoRow.holds Try.pinned (OpenSpec.upto fnExactDoRowOpSpec)

/-- 'laws.FnExactOpMatrix', WHERE WHAT IT READS IS OF BULK AT MOST 1048576: true; the input reads as it did. -/
def fnExactOpMatrixUptoRow : OpenClaim := { program := "ythbmmoajfghjbaa", sum := "ced4c65960adc9b2e69461573a576a6e86722e1eec0ef8dc0eca43b786ccfef8", func := "loop.example/g03411/laws.FnExactOpMatrix", spec := "fnExactOpMatrix", apart := false, narrowed := true }
def FnExactOpMatrixUptoSaid : Prop := fnExactOpMatrixUptoRow.holds Try.pinned (OpenSpec.upto fnExactOpMatrixSpec)

/-- 'laws.FnExactDoRowOps', WHERE WHAT IT READS IS OF BULK AT MOST 1048576: true; the input reads as it did. -/
def fnExactDoRowOpsUptoRow : OpenClaim := { program := "ythbmmoajfghjbaa", sum := "ced4c65960adc9b2e69461573a576a6e86722e1eec0ef8dc0eca43b786ccfef8", func := "loop.example/g03411/laws.FnExactDoRowOps", spec := "fnExactDoRowOps", apart := false, narrowed := true }
def FnExactDoRowOpsUptoSaid : Prop := fnExactDoRowOpsUptoRow.holds Try.pinned (OpenSpec.upto fnExactDoRowOpsSpec)

end Rows
end Go.Proofs.Ythbmmoajfghjbaa
