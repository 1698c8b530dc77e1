/-
  NARROWER THAN 'FOR EVERY INPUT', by the rows' own cells (each row's printed sentence says how): IrNodes: laid · IrChecks: laid · IrEvals: laid · IrParts: laid.
  DERIVED. THE GIVEN ROWS OF THIS SEAT. 4 by the template 'for every input the law returns true; each argument reads behind the call as it read before'; 0 by the template 'total and deterministic' (their statements: YtilifniflpbbkaaDoorTotals.lean).
  GIVEN WITH THE SEED: the statements are not yours to turn. If you find one false, say at which input.
  Laid BY PROGRAM, IN A SANDBOX (cutbox-rows.mjs): the forced cells as the released guide's own fill.sh prints them over the translation 1a2fb05b2c87c522… (all of the seat's roots in one cut). By AI agents, Wed Nov 11 2026. No macro, syntax, notation, axiom, sorry.
-/
import Derived.Test.YtilifniflpbbkaaDoorChecked
import GoSem.Claim
import GoSem.ClaimJoined
import GoSem.ClaimMapViews
import Derived.JoinedTies
import Derived.KernelRfl
namespace Go.Proofs.YtilifniflpbbkaaDoor
/- THE CELL 'sum', in the pinned program and in every row, IS THE sha256 OF THE DUMP (.gsa) THAT YtilifniflpbbkaaDoorProg.lean LOADS. Nothing in Lean hashes anything: it is a label: what it is worth is what the hold of that sum in a sandbox is worth. -/
noncomputable def Tryd.pinned : Pinned := { name := "ytilifniflpbbkaadoor", sum := "1a2fb05b2c87c5228ccd0de864d4d1ebfd8e3971fbe4300313f1520e64d6cc48", checked := Tryd.checked }
namespace Rows
def none {H : Type} : Left H := { results := [], args := [] }

/- WHAT THE LISTED PACKAGE-LEVEL VARIABLES READ AS WHEN THE CALL BEGINS. Each datum BY PROGRAM (the guide's laid-datum.mjs) off the statement by which the dump's own 'gosem.cut.vars' lays the variable. In a bare row this is a premise. The card (YtilifniflpbbkaaDoorCards.lean) ties it to the program's text. -/
def laid_taciturn_taciturnhand_bins {H : Type} : DataW H := .agg [.lit (.int .i64 6), .lit (.int .i64 7), .lit (.int .i64 8), .lit (.int .i64 9), .lit (.int .i64 10), .lit (.int .i64 11), .lit (.int .i64 12), .lit (.int .i64 13), .lit (.int .i64 14), .lit (.int .i64 19), .lit (.int .i64 20), .lit (.int .i64 21)]

/-- 'taciturnlaw17.IrNodes': WHATEVER THE INPUT: true; the input reads as it did. -/
def irNodesSpec : ChangeSpec := { name := "irNodes", fn := fun _ => fun
  | [d1, d2, d3, d4] => { results := [.lit (.bool true)], args := [d1, d2, d3, d4] }
  | _ => none }
def irNodesRow : OpenClaim := { program := "ytilifniflpbbkaadoor", sum := "1a2fb05b2c87c5228ccd0de864d4d1ebfd8e3971fbe4300313f1520e64d6cc48", func := "taciturn/taciturnlaw17.IrNodes", spec := "irNodes", unfollowed := true, recurses := true, named := ["taciturn/taciturnhand.bins"], apart := false, laid := [("taciturn/taciturnhand.bins", laid_taciturn_taciturnhand_bins)] }
def IrNodesSaid : Prop := irNodesRow.holds Tryd.pinned (OpenSpec.ofChange irNodesSpec)

/-- ITS FALSE NEIGHBOUR: 'it returns false'. Refute it at one input. -/
def irNodesWrong : ChangeSpec := { name := "irNodes", fn := fun _ => fun
  | [d1, d2, d3, d4] => { results := [.lit (.bool false)], args := [d1, d2, d3, d4] }
  | _ => none }
def IrNodesWrongFalsely : Prop := irNodesRow.holds Tryd.pinned (OpenSpec.ofChange irNodesWrong)

/-- 'taciturnlaw17.IrChecks': WHATEVER THE INPUT: true; the input reads as it did. -/
def irChecksSpec : ChangeSpec := { name := "irChecks", fn := fun _ => fun
  | [d1, d2, d3, d4] => { results := [.lit (.bool true)], args := [d1, d2, d3, d4] }
  | _ => none }
def irChecksRow : OpenClaim := { program := "ytilifniflpbbkaadoor", sum := "1a2fb05b2c87c5228ccd0de864d4d1ebfd8e3971fbe4300313f1520e64d6cc48", func := "taciturn/taciturnlaw17.IrChecks", spec := "irChecks", unfollowed := true, recurses := true, named := ["taciturn/taciturnhand.bins"], apart := false, laid := [("taciturn/taciturnhand.bins", laid_taciturn_taciturnhand_bins)] }
def IrChecksSaid : Prop := irChecksRow.holds Tryd.pinned (OpenSpec.ofChange irChecksSpec)

/-- ITS FALSE NEIGHBOUR: 'it returns false'. Refute it at one input. -/
def irChecksWrong : ChangeSpec := { name := "irChecks", fn := fun _ => fun
  | [d1, d2, d3, d4] => { results := [.lit (.bool false)], args := [d1, d2, d3, d4] }
  | _ => none }
def IrChecksWrongFalsely : Prop := irChecksRow.holds Tryd.pinned (OpenSpec.ofChange irChecksWrong)

/-- 'taciturnlaw17.IrEvals': WHATEVER THE INPUT: true; the input reads as it did. -/
def irEvalsSpec : ChangeSpec := { name := "irEvals", fn := fun _ => fun
  | [d1, d2, d3, d4, d5] => { results := [.lit (.bool true)], args := [d1, d2, d3, d4, d5] }
  | _ => none }
def irEvalsRow : OpenClaim := { program := "ytilifniflpbbkaadoor", sum := "1a2fb05b2c87c5228ccd0de864d4d1ebfd8e3971fbe4300313f1520e64d6cc48", func := "taciturn/taciturnlaw17.IrEvals", spec := "irEvals", unfollowed := true, recurses := true, named := ["taciturn/taciturnhand.bins"], apart := false, laid := [("taciturn/taciturnhand.bins", laid_taciturn_taciturnhand_bins)] }
def IrEvalsSaid : Prop := irEvalsRow.holds Tryd.pinned (OpenSpec.ofChange irEvalsSpec)

/-- ITS FALSE NEIGHBOUR: 'it returns false'. Refute it at one input. -/
def irEvalsWrong : ChangeSpec := { name := "irEvals", fn := fun _ => fun
  | [d1, d2, d3, d4, d5] => { results := [.lit (.bool false)], args := [d1, d2, d3, d4, d5] }
  | _ => none }
def IrEvalsWrongFalsely : Prop := irEvalsRow.holds Tryd.pinned (OpenSpec.ofChange irEvalsWrong)

/-- 'taciturnlaw17.IrParts': WHATEVER THE INPUT: true; the input reads as it did. -/
def irPartsSpec : ChangeSpec := { name := "irParts", fn := fun _ => fun
  | [d1, d2, d3, d4, d5] => { results := [.lit (.bool true)], args := [d1, d2, d3, d4, d5] }
  | _ => none }
def irPartsRow : OpenClaim := { program := "ytilifniflpbbkaadoor", sum := "1a2fb05b2c87c5228ccd0de864d4d1ebfd8e3971fbe4300313f1520e64d6cc48", func := "taciturn/taciturnlaw17.IrParts", spec := "irParts", unfollowed := true, recurses := true, named := ["taciturn/taciturnhand.bins"], apart := false, laid := [("taciturn/taciturnhand.bins", laid_taciturn_taciturnhand_bins)] }
def IrPartsSaid : Prop := irPartsRow.holds Tryd.pinned (OpenSpec.ofChange irPartsSpec)

/-- ITS FALSE NEIGHBOUR: 'it returns false'. Refute it at one input. -/
def irPartsWrong : ChangeSpec := { name := "irParts", fn := fun _ => fun
  | [d1, d2, d3, d4, d5] => { results := [.lit (.bool false)], args := [d1, d2, d3, d4, d5] }
  | _ => none }
def IrPartsWrongFalsely : Prop := irPartsRow.holds Tryd.pinned (OpenSpec.ofChange irPartsWrong)

/- THE SECOND FORM. 'bulk': how many values and letters a reading holds, each counted each time it is reached (what is shared counts as often as it is met; a slice's spare places count too). A statement '..UptoSaid' is the law's where the arguments, and the package variables that the reading takes, are together of bulk at most 1048576: NARROWER than '..Said'. Prove '..Said' where nothing that the law and all that it calls make is longer than what came in: it says more and counts as full. Else prove '..UptoSaid'. A law counts once. -/
mutual
def uptoBulk {H : Type} : DataW H → Nat
  | .lit (.string bytes) => bytes.length + 1
  | .lit _ => 1
  | .nil => 1
  | .ptr d => uptoBulk d + 1
  | .slice elems spare => uptoBulkAll elems + uptoBulkAll spare + 1
  | .agg parts => uptoBulkAll parts + 1
  | .iface _ d => uptoBulk d + 1
  | .map entries => uptoBulkEntries entries + 1
  | .held _ => 1
def uptoBulkAll {H : Type} : List (DataW H) → Nat
  | [] => 0
  | d :: r => uptoBulk d + uptoBulkAll r
def uptoBulkEntries {H : Type} : List (Lit × DataW H) → Nat
  | [] => 0
  | x :: r => uptoBulkEntry x + uptoBulkEntries r
def uptoBulkEntry {H : Type} : Lit × DataW H → Nat
  | (.string bytes, d) => bytes.length + uptoBulk d + 1
  | (_, d) => uptoBulk d + 1
 end
def uptoSmall : (H : Type) → List (DataW H) → Bool := fun _ ds => decide (uptoBulkAll ds ≤ 1048576)
def OpenSpec.upto (s : _root_.Go.ChangeSpec) : _root_.Go.OpenSpec := { _root_.Go.OpenSpec.ofChange s with cond := some uptoSmall }

/-- 'taciturnlaw17.IrNodes', WHERE WHAT IT READS IS OF BULK AT MOST 1048576: true; the input reads as it did. -/
def irNodesUptoRow : OpenClaim := { program := "ytilifniflpbbkaadoor", sum := "1a2fb05b2c87c5228ccd0de864d4d1ebfd8e3971fbe4300313f1520e64d6cc48", func := "taciturn/taciturnlaw17.IrNodes", spec := "irNodes", unfollowed := true, recurses := true, named := ["taciturn/taciturnhand.bins"], apart := false, laid := [("taciturn/taciturnhand.bins", laid_taciturn_taciturnhand_bins)], narrowed := true }
def IrNodesUptoSaid : Prop := irNodesUptoRow.holds Tryd.pinned (OpenSpec.upto irNodesSpec)

/-- 'taciturnlaw17.IrChecks', WHERE WHAT IT READS IS OF BULK AT MOST 1048576: true; the input reads as it did. -/
def irChecksUptoRow : OpenClaim := { program := "ytilifniflpbbkaadoor", sum := "1a2fb05b2c87c5228ccd0de864d4d1ebfd8e3971fbe4300313f1520e64d6cc48", func := "taciturn/taciturnlaw17.IrChecks", spec := "irChecks", unfollowed := true, recurses := true, named := ["taciturn/taciturnhand.bins"], apart := false, laid := [("taciturn/taciturnhand.bins", laid_taciturn_taciturnhand_bins)], narrowed := true }
def IrChecksUptoSaid : Prop := irChecksUptoRow.holds Tryd.pinned (OpenSpec.upto irChecksSpec)

/-- 'taciturnlaw17.IrEvals', WHERE WHAT IT READS IS OF BULK AT MOST 1048576: true; the input reads as it did. -/
def irEvalsUptoRow : OpenClaim := { program := "ytilifniflpbbkaadoor", sum := "1a2fb05b2c87c5228ccd0de864d4d1ebfd8e3971fbe4300313f1520e64d6cc48", func := "taciturn/taciturnlaw17.IrEvals", spec := "irEvals", unfollowed := true, recurses := true, named := ["taciturn/taciturnhand.bins"], apart := false, laid := [("taciturn/taciturnhand.bins", laid_taciturn_taciturnhand_bins)], narrowed := true }
def IrEvalsUptoSaid : Prop := irEvalsUptoRow.holds Tryd.pinned (OpenSpec.upto irEvalsSpec)

/-- 'taciturnlaw17.IrParts', WHERE WHAT IT READS IS OF BULK AT MOST 1048576: true; the input reads as it did. -/
def irPartsUptoRow : OpenClaim := { program := "ytilifniflpbbkaadoor", sum := "1a2fb05b2c87c5228ccd0de864d4d1ebfd8e3971fbe4300313f1520e64d6cc48", func := "taciturn/taciturnlaw17.IrParts", spec := "irParts", unfollowed := true, recurses := true, named := ["taciturn/taciturnhand.bins"], apart := false, laid := [("taciturn/taciturnhand.bins", laid_taciturn_taciturnhand_bins)], narrowed := true }
def IrPartsUptoSaid : Prop := irPartsUptoRow.holds Tryd.pinned (OpenSpec.upto irPartsSpec)

end Rows
end Go.Proofs.YtilifniflpbbkaaDoor
