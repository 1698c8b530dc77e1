/-
  No cell of these rows narrows 'for every input' (looked for: loops, veiled, ifaces, maps, wideKeys, modest, calm, conditions, laid).
  DERIVED. THE GIVEN ROWS OF THIS SEAT. 7 by the template 'for every input the law returns true; each argument reads behind the call as it read before'; 0 by the template 'total and deterministic' (their statements: YtelkohkacdocpaaTotals.lean).
  GIVEN WITH THE SEED: the statements are not yours to turn. If you find one false, say at which input.
  Laid BY PROGRAM, IN A SANDBOX (cutbox-rows.mjs): the forced cells as the released guide's own fill.sh prints them over the translation 6224b31ca140adbc… (all of the seat's roots in one cut). By AI agents, Wed Nov 11 2026. No macro, syntax, notation, axiom, sorry.
-/
import Derived.Test.YtelkohkacdocpaaChecked
import GoSem.Claim
import GoSem.ClaimJoined
import GoSem.ClaimMapViews
import Derived.JoinedTies
import Derived.KernelRfl
namespace Go.Proofs.Ytelkohkacdocpaa
/- THE CELL 'sum', in the pinned program and in every row, IS THE sha256 OF THE DUMP (.gsa) THAT YtelkohkacdocpaaProg.lean LOADS. Nothing in Lean hashes anything: it is a label: what it is worth is what the hold of that sum in a sandbox is worth. -/
noncomputable def Try.pinned : Pinned := { name := "ytelkohkacdocpaa", sum := "6224b31ca140adbc21cc62471727488c552dbd5384e9d47749c93c2bd82231cc", checked := Try.checked }
namespace Rows
def none {H : Type} : Left H := { results := [], args := [] }

/-- 'taciturnlaw2.WordOne': WHATEVER THE INPUT: true; the input reads as it did. -/
def wordOneSpec : ChangeSpec := { name := "wordOne", fn := fun _ => fun
  | [d1, d2, d3, d4] => { results := [.lit (.bool true)], args := [d1, d2, d3, d4] }
  | _ => none }
def wordOneRow : OpenClaim := { program := "ytelkohkacdocpaa", sum := "6224b31ca140adbc21cc62471727488c552dbd5384e9d47749c93c2bd82231cc", func := "taciturn/taciturnlaw2.WordOne", spec := "wordOne", apart := false }
def WordOneSaid : Prop := wordOneRow.holds Try.pinned (OpenSpec.ofChange wordOneSpec)

/-- ITS FALSE NEIGHBOUR: 'it returns false'. Refute it at one input. -/
def wordOneWrong : ChangeSpec := { name := "wordOne", fn := fun _ => fun
  | [d1, d2, d3, d4] => { results := [.lit (.bool false)], args := [d1, d2, d3, d4] }
  | _ => none }
def WordOneWrongFalsely : Prop := wordOneRow.holds Try.pinned (OpenSpec.ofChange wordOneWrong)

/-- 'taciturnlaw2.WordPicks': WHATEVER THE INPUT: true; the input reads as it did. -/
def wordPicksSpec : ChangeSpec := { name := "wordPicks", fn := fun _ => fun
  | [d1, d2, d3] => { results := [.lit (.bool true)], args := [d1, d2, d3] }
  | _ => none }
def wordPicksRow : OpenClaim := { program := "ytelkohkacdocpaa", sum := "6224b31ca140adbc21cc62471727488c552dbd5384e9d47749c93c2bd82231cc", func := "taciturn/taciturnlaw2.WordPicks", spec := "wordPicks", apart := false }
def WordPicksSaid : Prop := wordPicksRow.holds Try.pinned (OpenSpec.ofChange wordPicksSpec)

/-- ITS FALSE NEIGHBOUR: 'it returns false'. Refute it at one input. -/
def wordPicksWrong : ChangeSpec := { name := "wordPicks", fn := fun _ => fun
  | [d1, d2, d3] => { results := [.lit (.bool false)], args := [d1, d2, d3] }
  | _ => none }
def WordPicksWrongFalsely : Prop := wordPicksRow.holds Try.pinned (OpenSpec.ofChange wordPicksWrong)

/-- 'taciturnlaw2.WordShifts': WHATEVER THE INPUT: true; the input reads as it did. -/
def wordShiftsSpec : ChangeSpec := { name := "wordShifts", fn := fun _ => fun
  | [d1, d2] => { results := [.lit (.bool true)], args := [d1, d2] }
  | _ => none }
def wordShiftsRow : OpenClaim := { program := "ytelkohkacdocpaa", sum := "6224b31ca140adbc21cc62471727488c552dbd5384e9d47749c93c2bd82231cc", func := "taciturn/taciturnlaw2.WordShifts", spec := "wordShifts", apart := false }
def WordShiftsSaid : Prop := wordShiftsRow.holds Try.pinned (OpenSpec.ofChange wordShiftsSpec)

/-- ITS FALSE NEIGHBOUR: 'it returns false'. Refute it at one input. -/
def wordShiftsWrong : ChangeSpec := { name := "wordShifts", fn := fun _ => fun
  | [d1, d2] => { results := [.lit (.bool false)], args := [d1, d2] }
  | _ => none }
def WordShiftsWrongFalsely : Prop := wordShiftsRow.holds Try.pinned (OpenSpec.ofChange wordShiftsWrong)

/-- 'taciturnlaw2.WordBytes': WHATEVER THE INPUT: true; the input reads as it did. -/
def wordBytesSpec : ChangeSpec := { name := "wordBytes", fn := fun _ => fun
  | [d1, d2, d3, d4] => { results := [.lit (.bool true)], args := [d1, d2, d3, d4] }
  | _ => none }
def wordBytesRow : OpenClaim := { program := "ytelkohkacdocpaa", sum := "6224b31ca140adbc21cc62471727488c552dbd5384e9d47749c93c2bd82231cc", func := "taciturn/taciturnlaw2.WordBytes", spec := "wordBytes", apart := false }
def WordBytesSaid : Prop := wordBytesRow.holds Try.pinned (OpenSpec.ofChange wordBytesSpec)

/-- ITS FALSE NEIGHBOUR: 'it returns false'. Refute it at one input. -/
def wordBytesWrong : ChangeSpec := { name := "wordBytes", fn := fun _ => fun
  | [d1, d2, d3, d4] => { results := [.lit (.bool false)], args := [d1, d2, d3, d4] }
  | _ => none }
def WordBytesWrongFalsely : Prop := wordBytesRow.holds Try.pinned (OpenSpec.ofChange wordBytesWrong)

/-- 'taciturnlaw2.WordTwo': WHATEVER THE INPUT: true; the input reads as it did. -/
def wordTwoSpec : ChangeSpec := { name := "wordTwo", fn := fun _ => fun
  | [d1, d2, d3, d4] => { results := [.lit (.bool true)], args := [d1, d2, d3, d4] }
  | _ => none }
def wordTwoRow : OpenClaim := { program := "ytelkohkacdocpaa", sum := "6224b31ca140adbc21cc62471727488c552dbd5384e9d47749c93c2bd82231cc", func := "taciturn/taciturnlaw2.WordTwo", spec := "wordTwo", apart := false }
def WordTwoSaid : Prop := wordTwoRow.holds Try.pinned (OpenSpec.ofChange wordTwoSpec)

/-- ITS FALSE NEIGHBOUR: 'it returns false'. Refute it at one input. -/
def wordTwoWrong : ChangeSpec := { name := "wordTwo", fn := fun _ => fun
  | [d1, d2, d3, d4] => { results := [.lit (.bool false)], args := [d1, d2, d3, d4] }
  | _ => none }
def WordTwoWrongFalsely : Prop := wordTwoRow.holds Try.pinned (OpenSpec.ofChange wordTwoWrong)

/-- 'taciturnlaw2.WordLaws': WHATEVER THE INPUT: true; the input reads as it did. -/
def wordLawsSpec : ChangeSpec := { name := "wordLaws", fn := fun _ => fun
  | [d1, d2, d3] => { results := [.lit (.bool true)], args := [d1, d2, d3] }
  | _ => none }
def wordLawsRow : OpenClaim := { program := "ytelkohkacdocpaa", sum := "6224b31ca140adbc21cc62471727488c552dbd5384e9d47749c93c2bd82231cc", func := "taciturn/taciturnlaw2.WordLaws", spec := "wordLaws", apart := false }
def WordLawsSaid : Prop := wordLawsRow.holds Try.pinned (OpenSpec.ofChange wordLawsSpec)

/-- ITS FALSE NEIGHBOUR: 'it returns false'. Refute it at one input. -/
def wordLawsWrong : ChangeSpec := { name := "wordLaws", fn := fun _ => fun
  | [d1, d2, d3] => { results := [.lit (.bool false)], args := [d1, d2, d3] }
  | _ => none }
def WordLawsWrongFalsely : Prop := wordLawsRow.holds Try.pinned (OpenSpec.ofChange wordLawsWrong)

/-- 'taciturnlaw2.WordKnown': WHATEVER THE INPUT: true; the input reads as it did. -/
def wordKnownSpec : ChangeSpec := { name := "wordKnown", fn := fun _ => fun
  | [] => { results := [.lit (.bool true)], args := [] }
  | _ => none }
def wordKnownRow : OpenClaim := { program := "ytelkohkacdocpaa", sum := "6224b31ca140adbc21cc62471727488c552dbd5384e9d47749c93c2bd82231cc", func := "taciturn/taciturnlaw2.WordKnown", spec := "wordKnown", apart := false }
def WordKnownSaid : Prop := wordKnownRow.holds Try.pinned (OpenSpec.ofChange wordKnownSpec)

/-- ITS FALSE NEIGHBOUR: 'it returns false'. Refute it at one input. -/
def wordKnownWrong : ChangeSpec := { name := "wordKnown", fn := fun _ => fun
  | [] => { results := [.lit (.bool false)], args := [] }
  | _ => none }
def WordKnownWrongFalsely : Prop := wordKnownRow.holds Try.pinned (OpenSpec.ofChange wordKnownWrong)

/- THE SECOND FORM. 'bulk': how many values and letters a reading holds, each counted each time it is reached (what is shared counts as often as it is met; a slice's spare places count too). A statement '..UptoSaid' is the law's where the arguments, and the package variables that the reading takes, are together of bulk at most 1048576: NARROWER than '..Said'. Prove '..Said' where nothing that the law and all that it calls make is longer than what came in: it says more and counts as full. Else prove '..UptoSaid'. A law counts once. -/
mutual
def uptoBulk {H : Type} : DataW H → Nat
  | .lit (.string bytes) => bytes.length + 1
  | .lit _ => 1
  | .nil => 1
  | .ptr d => uptoBulk d + 1
  | .slice elems spare => uptoBulkAll elems + uptoBulkAll spare + 1
  | .agg parts => uptoBulkAll parts + 1
  | .iface _ d => uptoBulk d + 1
  | .map entries => uptoBulkEntries entries + 1
  | .held _ => 1
def uptoBulkAll {H : Type} : List (DataW H) → Nat
  | [] => 0
  | d :: r => uptoBulk d + uptoBulkAll r
def uptoBulkEntries {H : Type} : List (Lit × DataW H) → Nat
  | [] => 0
  | x :: r => uptoBulkEntry x + uptoBulkEntries r
def uptoBulkEntry {H : Type} : Lit × DataW H → Nat
  | (.string bytes, d) => bytes.length + uptoBulk d + 1
  | (_, d) => uptoBulk d + 1
 end
def uptoSmall : (H : Type) → List (DataW H) → Bool := fun _ ds => decide (uptoBulkAll ds ≤ 1048576)
def OpenSpec.upto (s : _root_.Go.ChangeSpec) : _root_.Go.OpenSpec := { _root_.Go.OpenSpec.ofChange s with cond := some uptoSmall }

/-- 'taciturnlaw2.WordOne', WHERE WHAT IT READS IS OF BULK AT MOST 1048576: true; the input reads as it did. -/
def wordOneUptoRow : OpenClaim := { program := "ytelkohkacdocpaa", sum := "6224b31ca140adbc21cc62471727488c552dbd5384e9d47749c93c2bd82231cc", func := "taciturn/taciturnlaw2.WordOne", spec := "wordOne", apart := false, narrowed := true }
def WordOneUptoSaid : Prop := wordOneUptoRow.holds Try.pinned (OpenSpec.upto wordOneSpec)

/-- 'taciturnlaw2.WordPicks', WHERE WHAT IT READS IS OF BULK AT MOST 1048576: true; the input reads as it did. -/
def wordPicksUptoRow : OpenClaim := { program := "ytelkohkacdocpaa", sum := "6224b31ca140adbc21cc62471727488c552dbd5384e9d47749c93c2bd82231cc", func := "taciturn/taciturnlaw2.WordPicks", spec := "wordPicks", apart := false, narrowed := true }
def WordPicksUptoSaid : Prop := wordPicksUptoRow.holds Try.pinned (OpenSpec.upto wordPicksSpec)

/-- 'taciturnlaw2.WordShifts', WHERE WHAT IT READS IS OF BULK AT MOST 1048576: true; the input reads as it did. -/
def wordShiftsUptoRow : OpenClaim := { program := "ytelkohkacdocpaa", sum := "6224b31ca140adbc21cc62471727488c552dbd5384e9d47749c93c2bd82231cc", func := "taciturn/taciturnlaw2.WordShifts", spec := "wordShifts", apart := false, narrowed := true }
def WordShiftsUptoSaid : Prop := wordShiftsUptoRow.holds Try.pinned (OpenSpec.upto wordShiftsSpec)

/-- 'taciturnlaw2.WordBytes', WHERE WHAT IT READS IS OF BULK AT MOST 1048576: true; the input reads as it did. -/
def wordBytesUptoRow : OpenClaim := { program := "ytelkohkacdocpaa", sum := "6224b31ca140adbc21cc62471727488c552dbd5384e9d47749c93c2bd82231cc", func := "taciturn/taciturnlaw2.WordBytes", spec := "wordBytes", apart := false, narrowed := true }
def WordBytesUptoSaid : Prop := wordBytesUptoRow.holds Try.pinned (OpenSpec.upto wordBytesSpec)

/-- 'taciturnlaw2.WordTwo', WHERE WHAT IT READS IS OF BULK AT MOST 1048576: true; the input reads as it did. -/
def wordTwoUptoRow : OpenClaim := { program := "ytelkohkacdocpaa", sum := "6224b31ca140adbc21cc62471727488c552dbd5384e9d47749c93c2bd82231cc", func := "taciturn/taciturnlaw2.WordTwo", spec := "wordTwo", apart := false, narrowed := true }
def WordTwoUptoSaid : Prop := wordTwoUptoRow.holds Try.pinned (OpenSpec.upto wordTwoSpec)

/-- 'taciturnlaw2.WordLaws', WHERE WHAT IT READS IS OF BULK AT MOST 1048576: true; the input reads as it did. -/
def wordLawsUptoRow : OpenClaim := { program := "ytelkohkacdocpaa", sum := "6224b31ca140adbc21cc62471727488c552dbd5384e9d47749c93c2bd82231cc", func := "taciturn/taciturnlaw2.WordLaws", spec := "wordLaws", apart := false, narrowed := true }
def WordLawsUptoSaid : Prop := wordLawsUptoRow.holds Try.pinned (OpenSpec.upto wordLawsSpec)

/-- 'taciturnlaw2.WordKnown', WHERE WHAT IT READS IS OF BULK AT MOST 1048576: true; the input reads as it did. -/
def wordKnownUptoRow : OpenClaim := { program := "ytelkohkacdocpaa", sum := "6224b31ca140adbc21cc62471727488c552dbd5384e9d47749c93c2bd82231cc", func := "taciturn/taciturnlaw2.WordKnown", spec := "wordKnown", apart := false, narrowed := true }
def WordKnownUptoSaid : Prop := wordKnownUptoRow.holds Try.pinned (OpenSpec.upto wordKnownSpec)

end Rows
end Go.Proofs.Ytelkohkacdocpaa
