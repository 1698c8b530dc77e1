/-
  DERIVED. GIVEN WITH THE SEED: THE CARDS: each row of YtilifniflpbbkaaDoorRows.lean that lists a variable, with what it lists TIED to the program's text (the seventh form; the later family's looks); each row that meets fmt, with fmt's text TOLD by the authors' own Lean function (tested against real Go, not proved from fmt's source: count such statements apart). THE CARD IS WHAT COUNTS. Prove the row's statement (the work); the ties are given (YtilifniflpbbkaaDoorTie.lean); close each card by the builder's one call (the guide's Derived/Test/ToyasCard.lean, 'card_holds'). Laid BY PROGRAM, IN A SANDBOX (cutbox-door.mjs). By AI agents, Wed Nov 11 2026. No macro, syntax, notation, axiom, sorry.
-/
import Derived.Test.YtilifniflpbbkaaDoorRows
import GoSem.ClaimSeven
namespace Go.Proofs.YtilifniflpbbkaaDoor
namespace Rows

/-- THE TIED CARD OF 'taciturnlaw17.IrNodes'. -/
def irNodesCard : Claim7 := { stood := { row := irNodesRow, standIns := [], harness := (true, "74c8e394a74960c38221e1d574a58eafae41fb476d37e4565a4eccb12b5ae94a"), looks := true }, kinds := [], alts := [], laidByText := true, laidKinds := [.data], laidTests := true, laidLooks := .later }
def IrNodesCardSaid : Prop := Claim7.holds Tryd.pinned (.plain (OpenSpec.ofChange irNodesSpec)) irNodesCard

/-- THE TIED CARD OF 'taciturnlaw17.IrChecks'. -/
def irChecksCard : Claim7 := { stood := { row := irChecksRow, standIns := [], harness := (true, "74c8e394a74960c38221e1d574a58eafae41fb476d37e4565a4eccb12b5ae94a"), looks := true }, kinds := [], alts := [], laidByText := true, laidKinds := [.data], laidTests := true, laidLooks := .later }
def IrChecksCardSaid : Prop := Claim7.holds Tryd.pinned (.plain (OpenSpec.ofChange irChecksSpec)) irChecksCard

/-- THE TIED CARD OF 'taciturnlaw17.IrEvals'. -/
def irEvalsCard : Claim7 := { stood := { row := irEvalsRow, standIns := [], harness := (true, "74c8e394a74960c38221e1d574a58eafae41fb476d37e4565a4eccb12b5ae94a"), looks := true }, kinds := [], alts := [], laidByText := true, laidKinds := [.data], laidTests := true, laidLooks := .later }
def IrEvalsCardSaid : Prop := Claim7.holds Tryd.pinned (.plain (OpenSpec.ofChange irEvalsSpec)) irEvalsCard

/-- THE TIED CARD OF 'taciturnlaw17.IrParts'. -/
def irPartsCard : Claim7 := { stood := { row := irPartsRow, standIns := [], harness := (true, "74c8e394a74960c38221e1d574a58eafae41fb476d37e4565a4eccb12b5ae94a"), looks := true }, kinds := [], alts := [], laidByText := true, laidKinds := [.data], laidTests := true, laidLooks := .later }
def IrPartsCardSaid : Prop := Claim7.holds Tryd.pinned (.plain (OpenSpec.ofChange irPartsSpec)) irPartsCard

/-- THE SECOND FORM's CARD OF 'taciturnlaw17.IrNodes'. -/
def irNodesUptoCard : Claim7 := { stood := { row := irNodesUptoRow, standIns := [], harness := (true, "74c8e394a74960c38221e1d574a58eafae41fb476d37e4565a4eccb12b5ae94a"), looks := true }, kinds := [], alts := [], laidByText := true, laidKinds := [.data], laidTests := true, laidLooks := .later }
def IrNodesUptoCardSaid : Prop := Claim7.holds Tryd.pinned (.plain (OpenSpec.upto irNodesSpec)) irNodesUptoCard

/-- THE SECOND FORM's CARD OF 'taciturnlaw17.IrChecks'. -/
def irChecksUptoCard : Claim7 := { stood := { row := irChecksUptoRow, standIns := [], harness := (true, "74c8e394a74960c38221e1d574a58eafae41fb476d37e4565a4eccb12b5ae94a"), looks := true }, kinds := [], alts := [], laidByText := true, laidKinds := [.data], laidTests := true, laidLooks := .later }
def IrChecksUptoCardSaid : Prop := Claim7.holds Tryd.pinned (.plain (OpenSpec.upto irChecksSpec)) irChecksUptoCard

/-- THE SECOND FORM's CARD OF 'taciturnlaw17.IrEvals'. -/
def irEvalsUptoCard : Claim7 := { stood := { row := irEvalsUptoRow, standIns := [], harness := (true, "74c8e394a74960c38221e1d574a58eafae41fb476d37e4565a4eccb12b5ae94a"), looks := true }, kinds := [], alts := [], laidByText := true, laidKinds := [.data], laidTests := true, laidLooks := .later }
def IrEvalsUptoCardSaid : Prop := Claim7.holds Tryd.pinned (.plain (OpenSpec.upto irEvalsSpec)) irEvalsUptoCard

/-- THE SECOND FORM's CARD OF 'taciturnlaw17.IrParts'. -/
def irPartsUptoCard : Claim7 := { stood := { row := irPartsUptoRow, standIns := [], harness := (true, "74c8e394a74960c38221e1d574a58eafae41fb476d37e4565a4eccb12b5ae94a"), looks := true }, kinds := [], alts := [], laidByText := true, laidKinds := [.data], laidTests := true, laidLooks := .later }
def IrPartsUptoCardSaid : Prop := Claim7.holds Tryd.pinned (.plain (OpenSpec.upto irPartsSpec)) irPartsUptoCard
end Rows
end Go.Proofs.YtilifniflpbbkaaDoor
