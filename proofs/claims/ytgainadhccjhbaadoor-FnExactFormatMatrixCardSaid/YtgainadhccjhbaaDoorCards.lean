/-
  DERIVED. GIVEN WITH THE SEED: THE CARDS: each row of YtgainadhccjhbaaDoorRows.lean that lists a variable, with what it lists TIED to the program's text (the seventh form; the later family's looks); each row that meets fmt, with fmt's text TOLD by the authors' own Lean function (tested against real Go, not proved from fmt's source: count such statements apart). THE CARD IS WHAT COUNTS. Prove the row's statement (the work); the ties are given (YtgainadhccjhbaaDoorTie.lean); close each card by the builder's one call (the guide's Derived/Test/ToyasCard.lean, 'card_holds'). Laid BY PROGRAM, IN A SANDBOX (cutbox-door.mjs). By AI agents, Wed Nov 11 2026. No macro, syntax, notation, axiom, sorry.
-/
import Derived.Test.YtgainadhccjhbaaDoorRows
import GoSem.ClaimSeven
namespace Go.Proofs.YtgainadhccjhbaaDoor
namespace Rows

/-- THE TIED CARD OF 'laws.FnExactFormatInt'. -/
def fnExactFormatIntCard : Claim7 := { stood := { row := fnExactFormatIntRow, standIns := [], harness := (true, "0aa7a99571e725562a847bd35e8a9ba5a7d26a34a4610e8118b07000d7d82f78"), looks := false }, kinds := [], alts := [], laidByText := true, laidKinds := [.data, .data, .data], laidTests := true, laidLooks := .later }
def FnExactFormatIntCardSaid : Prop := Claim7.holds Tryd.pinned (.plain (OpenSpec.ofChange fnExactFormatIntSpec)) fnExactFormatIntCard

/-- THE TIED CARD OF 'laws.FnExactFormatRatio'. -/
def fnExactFormatRatioCard : Claim7 := { stood := { row := fnExactFormatRatioRow, standIns := [], harness := (true, "0aa7a99571e725562a847bd35e8a9ba5a7d26a34a4610e8118b07000d7d82f78"), looks := false }, kinds := [], alts := [], laidByText := true, laidKinds := [.data, .data, .data], laidTests := true, laidLooks := .later }
def FnExactFormatRatioCardSaid : Prop := Claim7.holds Tryd.pinned (.plain (OpenSpec.ofChange fnExactFormatRatioSpec)) fnExactFormatRatioCard

/-- THE TIED CARD OF 'laws.FnExactFormatInts'. -/
def fnExactFormatIntsCard : Claim7 := { stood := { row := fnExactFormatIntsRow, standIns := [], harness := (true, "0aa7a99571e725562a847bd35e8a9ba5a7d26a34a4610e8118b07000d7d82f78"), looks := false }, kinds := [], alts := [], laidByText := true, laidKinds := [.data, .data, .data], laidTests := true, laidLooks := .later }
def FnExactFormatIntsCardSaid : Prop := Claim7.holds Tryd.pinned (.plain (OpenSpec.ofChange fnExactFormatIntsSpec)) fnExactFormatIntsCard

/-- THE TIED CARD OF 'laws.FnExactFormatMatrix'. -/
def fnExactFormatMatrixCard : Claim7 := { stood := { row := fnExactFormatMatrixRow, standIns := [], harness := (true, "0aa7a99571e725562a847bd35e8a9ba5a7d26a34a4610e8118b07000d7d82f78"), looks := false }, kinds := [], alts := [], laidByText := true, laidKinds := [.data, .data, .data], laidTests := true, laidLooks := .later }
def FnExactFormatMatrixCardSaid : Prop := Claim7.holds Tryd.pinned (.plain (OpenSpec.ofChange fnExactFormatMatrixSpec)) fnExactFormatMatrixCard

/-- THE SECOND FORM's CARD OF 'laws.FnExactFormatInt'. -/
def fnExactFormatIntUptoCard : Claim7 := { stood := { row := fnExactFormatIntUptoRow, standIns := [], harness := (true, "0aa7a99571e725562a847bd35e8a9ba5a7d26a34a4610e8118b07000d7d82f78"), looks := false }, kinds := [], alts := [], laidByText := true, laidKinds := [.data, .data, .data], laidTests := true, laidLooks := .later }
def FnExactFormatIntUptoCardSaid : Prop := Claim7.holds Tryd.pinned (.plain (OpenSpec.upto fnExactFormatIntSpec)) fnExactFormatIntUptoCard

/-- THE SECOND FORM's CARD OF 'laws.FnExactFormatRatio'. -/
def fnExactFormatRatioUptoCard : Claim7 := { stood := { row := fnExactFormatRatioUptoRow, standIns := [], harness := (true, "0aa7a99571e725562a847bd35e8a9ba5a7d26a34a4610e8118b07000d7d82f78"), looks := false }, kinds := [], alts := [], laidByText := true, laidKinds := [.data, .data, .data], laidTests := true, laidLooks := .later }
def FnExactFormatRatioUptoCardSaid : Prop := Claim7.holds Tryd.pinned (.plain (OpenSpec.upto fnExactFormatRatioSpec)) fnExactFormatRatioUptoCard

/-- THE SECOND FORM's CARD OF 'laws.FnExactFormatInts'. -/
def fnExactFormatIntsUptoCard : Claim7 := { stood := { row := fnExactFormatIntsUptoRow, standIns := [], harness := (true, "0aa7a99571e725562a847bd35e8a9ba5a7d26a34a4610e8118b07000d7d82f78"), looks := false }, kinds := [], alts := [], laidByText := true, laidKinds := [.data, .data, .data], laidTests := true, laidLooks := .later }
def FnExactFormatIntsUptoCardSaid : Prop := Claim7.holds Tryd.pinned (.plain (OpenSpec.upto fnExactFormatIntsSpec)) fnExactFormatIntsUptoCard

/-- THE SECOND FORM's CARD OF 'laws.FnExactFormatMatrix'. -/
def fnExactFormatMatrixUptoCard : Claim7 := { stood := { row := fnExactFormatMatrixUptoRow, standIns := [], harness := (true, "0aa7a99571e725562a847bd35e8a9ba5a7d26a34a4610e8118b07000d7d82f78"), looks := false }, kinds := [], alts := [], laidByText := true, laidKinds := [.data, .data, .data], laidTests := true, laidLooks := .later }
def FnExactFormatMatrixUptoCardSaid : Prop := Claim7.holds Tryd.pinned (.plain (OpenSpec.upto fnExactFormatMatrixSpec)) fnExactFormatMatrixUptoCard
end Rows
end Go.Proofs.YtgainadhccjhbaaDoor
