/-
  No cell of these rows narrows 'for every input' (looked for: loops, veiled, ifaces, maps, wideKeys, modest, calm, conditions, laid).
  DERIVED. THE GIVEN ROWS OF THIS SEAT. 6 by the template 'for every input the law returns true; each argument reads behind the call as it read before'; 0 by the template 'total and deterministic' (their statements: YtmbaoaoglhonfaaTotals.lean).
  GIVEN WITH THE SEED: the statements are not yours to turn. If you find one false, say at which input.
  Laid BY PROGRAM, IN A SANDBOX (cutbox-rows.mjs): the forced cells as the released guide's own fill.sh prints them over the translation 5ae48c04b6124989… (all of the seat's roots in one cut). By AI agents, Wed Nov 11 2026. No macro, syntax, notation, axiom, sorry.
-/
import Derived.Test.YtmbaoaoglhonfaaChecked
import GoSem.Claim
import GoSem.ClaimJoined
import GoSem.ClaimMapViews
import Derived.JoinedTies
import Derived.KernelRfl
namespace Go.Proofs.Ytmbaoaoglhonfaa
/- THE CELL 'sum', in the pinned program and in every row, IS THE sha256 OF THE DUMP (.gsa) THAT YtmbaoaoglhonfaaProg.lean LOADS. Nothing in Lean hashes anything: it is a label: what it is worth is what the hold of that sum in a sandbox is worth. -/
noncomputable def Try.pinned : Pinned := { name := "ytmbaoaoglhonfaa", sum := "5ae48c04b6124989b1a0359bc504d2b8f809efd84e8e50aeef29e77dd98658ea", checked := Try.checked }
namespace Rows
def none {H : Type} : Left H := { results := [], args := [] }

/-- 'taciturnlaw10.LeakFull': WHATEVER THE INPUT: true; the input reads as it did. -/
def leakFullSpec : ChangeSpec := { name := "leakFull", fn := fun _ => fun
  | [d] => { results := [.lit (.bool true)], args := [d] }
  | _ => none }
def leakFullRow : OpenClaim := { program := "ytmbaoaoglhonfaa", sum := "5ae48c04b6124989b1a0359bc504d2b8f809efd84e8e50aeef29e77dd98658ea", func := "taciturn/taciturnlaw10.LeakFull", spec := "leakFull", apart := false }
def LeakFullSaid : Prop := leakFullRow.holds Try.pinned (OpenSpec.ofChange leakFullSpec)

/-- ITS FALSE NEIGHBOUR: 'it returns false'. Refute it at one input. -/
def leakFullWrong : ChangeSpec := { name := "leakFull", fn := fun _ => fun
  | [d] => { results := [.lit (.bool false)], args := [d] }
  | _ => none }
def LeakFullWrongFalsely : Prop := leakFullRow.holds Try.pinned (OpenSpec.ofChange leakFullWrong)

/-- 'taciturnlaw10.LeakTells': WHATEVER THE INPUT: true; the input reads as it did. -/
def leakTellsSpec : ChangeSpec := { name := "leakTells", fn := fun _ => fun
  | [d1, d2, d3, d4, d5] => { results := [.lit (.bool true)], args := [d1, d2, d3, d4, d5] }
  | _ => none }
def leakTellsRow : OpenClaim := { program := "ytmbaoaoglhonfaa", sum := "5ae48c04b6124989b1a0359bc504d2b8f809efd84e8e50aeef29e77dd98658ea", func := "taciturn/taciturnlaw10.LeakTells", spec := "leakTells", apart := false }
def LeakTellsSaid : Prop := leakTellsRow.holds Try.pinned (OpenSpec.ofChange leakTellsSpec)

/-- ITS FALSE NEIGHBOUR: 'it returns false'. Refute it at one input. -/
def leakTellsWrong : ChangeSpec := { name := "leakTells", fn := fun _ => fun
  | [d1, d2, d3, d4, d5] => { results := [.lit (.bool false)], args := [d1, d2, d3, d4, d5] }
  | _ => none }
def LeakTellsWrongFalsely : Prop := leakTellsRow.holds Try.pinned (OpenSpec.ofChange leakTellsWrong)

/-- 'taciturnlaw10.LeakKnown': WHATEVER THE INPUT: true; the input reads as it did. -/
def leakKnownSpec : ChangeSpec := { name := "leakKnown", fn := fun _ => fun
  | [] => { results := [.lit (.bool true)], args := [] }
  | _ => none }
def leakKnownRow : OpenClaim := { program := "ytmbaoaoglhonfaa", sum := "5ae48c04b6124989b1a0359bc504d2b8f809efd84e8e50aeef29e77dd98658ea", func := "taciturn/taciturnlaw10.LeakKnown", spec := "leakKnown", apart := false }
def LeakKnownSaid : Prop := leakKnownRow.holds Try.pinned (OpenSpec.ofChange leakKnownSpec)

/-- ITS FALSE NEIGHBOUR: 'it returns false'. Refute it at one input. -/
def leakKnownWrong : ChangeSpec := { name := "leakKnown", fn := fun _ => fun
  | [] => { results := [.lit (.bool false)], args := [] }
  | _ => none }
def LeakKnownWrongFalsely : Prop := leakKnownRow.holds Try.pinned (OpenSpec.ofChange leakKnownWrong)

/-- 'taciturnlaw15.MemBytes': WHATEVER THE INPUT: true; the input reads as it did. -/
def memBytesSpec : ChangeSpec := { name := "memBytes", fn := fun _ => fun
  | [d1, d2, d3, d4] => { results := [.lit (.bool true)], args := [d1, d2, d3, d4] }
  | _ => none }
def memBytesRow : OpenClaim := { program := "ytmbaoaoglhonfaa", sum := "5ae48c04b6124989b1a0359bc504d2b8f809efd84e8e50aeef29e77dd98658ea", func := "taciturn/taciturnlaw15.MemBytes", spec := "memBytes", apart := false }
def MemBytesSaid : Prop := memBytesRow.holds Try.pinned (OpenSpec.ofChange memBytesSpec)

/-- ITS FALSE NEIGHBOUR: 'it returns false'. Refute it at one input. -/
def memBytesWrong : ChangeSpec := { name := "memBytes", fn := fun _ => fun
  | [d1, d2, d3, d4] => { results := [.lit (.bool false)], args := [d1, d2, d3, d4] }
  | _ => none }
def MemBytesWrongFalsely : Prop := memBytesRow.holds Try.pinned (OpenSpec.ofChange memBytesWrong)

/-- 'taciturnlaw15.MemKnown': WHATEVER THE INPUT: true; the input reads as it did. -/
def memKnownSpec : ChangeSpec := { name := "memKnown", fn := fun _ => fun
  | [] => { results := [.lit (.bool true)], args := [] }
  | _ => none }
def memKnownRow : OpenClaim := { program := "ytmbaoaoglhonfaa", sum := "5ae48c04b6124989b1a0359bc504d2b8f809efd84e8e50aeef29e77dd98658ea", func := "taciturn/taciturnlaw15.MemKnown", spec := "memKnown", apart := false }
def MemKnownSaid : Prop := memKnownRow.holds Try.pinned (OpenSpec.ofChange memKnownSpec)

/-- ITS FALSE NEIGHBOUR: 'it returns false'. Refute it at one input. -/
def memKnownWrong : ChangeSpec := { name := "memKnown", fn := fun _ => fun
  | [] => { results := [.lit (.bool false)], args := [] }
  | _ => none }
def MemKnownWrongFalsely : Prop := memKnownRow.holds Try.pinned (OpenSpec.ofChange memKnownWrong)

/-- 'taciturnlaw15.MemPlays': WHATEVER THE INPUT: true; the input reads as it did. -/
def memPlaysSpec : ChangeSpec := { name := "memPlays", fn := fun _ => fun
  | [d] => { results := [.lit (.bool true)], args := [d] }
  | _ => none }
def memPlaysRow : OpenClaim := { program := "ytmbaoaoglhonfaa", sum := "5ae48c04b6124989b1a0359bc504d2b8f809efd84e8e50aeef29e77dd98658ea", func := "taciturn/taciturnlaw15.MemPlays", spec := "memPlays", apart := false }
def MemPlaysSaid : Prop := memPlaysRow.holds Try.pinned (OpenSpec.ofChange memPlaysSpec)

/-- ITS FALSE NEIGHBOUR: 'it returns false'. Refute it at one input. -/
def memPlaysWrong : ChangeSpec := { name := "memPlays", fn := fun _ => fun
  | [d] => { results := [.lit (.bool false)], args := [d] }
  | _ => none }
def MemPlaysWrongFalsely : Prop := memPlaysRow.holds Try.pinned (OpenSpec.ofChange memPlaysWrong)

/- THE SECOND FORM. 'bulk': how many values and letters a reading holds, each counted each time it is reached (what is shared counts as often as it is met; a slice's spare places count too). A statement '..UptoSaid' is the law's where the arguments, and the package variables that the reading takes, are together of bulk at most 1048576: NARROWER than '..Said'. Prove '..Said' where nothing that the law and all that it calls make is longer than what came in: it says more and counts as full. Else prove '..UptoSaid'. A law counts once. -/
mutual
def uptoBulk {H : Type} : DataW H → Nat
  | .lit (.string bytes) => bytes.length + 1
  | .lit _ => 1
  | .nil => 1
  | .ptr d => uptoBulk d + 1
  | .slice elems spare => uptoBulkAll elems + uptoBulkAll spare + 1
  | .agg parts => uptoBulkAll parts + 1
  | .iface _ d => uptoBulk d + 1
  | .map entries => uptoBulkEntries entries + 1
  | .held _ => 1
def uptoBulkAll {H : Type} : List (DataW H) → Nat
  | [] => 0
  | d :: r => uptoBulk d + uptoBulkAll r
def uptoBulkEntries {H : Type} : List (Lit × DataW H) → Nat
  | [] => 0
  | x :: r => uptoBulkEntry x + uptoBulkEntries r
def uptoBulkEntry {H : Type} : Lit × DataW H → Nat
  | (.string bytes, d) => bytes.length + uptoBulk d + 1
  | (_, d) => uptoBulk d + 1
 end
def uptoSmall : (H : Type) → List (DataW H) → Bool := fun _ ds => decide (uptoBulkAll ds ≤ 1048576)
def OpenSpec.upto (s : _root_.Go.ChangeSpec) : _root_.Go.OpenSpec := { _root_.Go.OpenSpec.ofChange s with cond := some uptoSmall }

/-- 'taciturnlaw10.LeakFull', WHERE WHAT IT READS IS OF BULK AT MOST 1048576: true; the input reads as it did. -/
def leakFullUptoRow : OpenClaim := { program := "ytmbaoaoglhonfaa", sum := "5ae48c04b6124989b1a0359bc504d2b8f809efd84e8e50aeef29e77dd98658ea", func := "taciturn/taciturnlaw10.LeakFull", spec := "leakFull", apart := false, narrowed := true }
def LeakFullUptoSaid : Prop := leakFullUptoRow.holds Try.pinned (OpenSpec.upto leakFullSpec)

/-- 'taciturnlaw10.LeakTells', WHERE WHAT IT READS IS OF BULK AT MOST 1048576: true; the input reads as it did. -/
def leakTellsUptoRow : OpenClaim := { program := "ytmbaoaoglhonfaa", sum := "5ae48c04b6124989b1a0359bc504d2b8f809efd84e8e50aeef29e77dd98658ea", func := "taciturn/taciturnlaw10.LeakTells", spec := "leakTells", apart := false, narrowed := true }
def LeakTellsUptoSaid : Prop := leakTellsUptoRow.holds Try.pinned (OpenSpec.upto leakTellsSpec)

/-- 'taciturnlaw10.LeakKnown', WHERE WHAT IT READS IS OF BULK AT MOST 1048576: true; the input reads as it did. -/
def leakKnownUptoRow : OpenClaim := { program := "ytmbaoaoglhonfaa", sum := "5ae48c04b6124989b1a0359bc504d2b8f809efd84e8e50aeef29e77dd98658ea", func := "taciturn/taciturnlaw10.LeakKnown", spec := "leakKnown", apart := false, narrowed := true }
def LeakKnownUptoSaid : Prop := leakKnownUptoRow.holds Try.pinned (OpenSpec.upto leakKnownSpec)

/-- 'taciturnlaw15.MemBytes', WHERE WHAT IT READS IS OF BULK AT MOST 1048576: true; the input reads as it did. -/
def memBytesUptoRow : OpenClaim := { program := "ytmbaoaoglhonfaa", sum := "5ae48c04b6124989b1a0359bc504d2b8f809efd84e8e50aeef29e77dd98658ea", func := "taciturn/taciturnlaw15.MemBytes", spec := "memBytes", apart := false, narrowed := true }
def MemBytesUptoSaid : Prop := memBytesUptoRow.holds Try.pinned (OpenSpec.upto memBytesSpec)

/-- 'taciturnlaw15.MemKnown', WHERE WHAT IT READS IS OF BULK AT MOST 1048576: true; the input reads as it did. -/
def memKnownUptoRow : OpenClaim := { program := "ytmbaoaoglhonfaa", sum := "5ae48c04b6124989b1a0359bc504d2b8f809efd84e8e50aeef29e77dd98658ea", func := "taciturn/taciturnlaw15.MemKnown", spec := "memKnown", apart := false, narrowed := true }
def MemKnownUptoSaid : Prop := memKnownUptoRow.holds Try.pinned (OpenSpec.upto memKnownSpec)

/-- 'taciturnlaw15.MemPlays', WHERE WHAT IT READS IS OF BULK AT MOST 1048576: true; the input reads as it did. -/
def memPlaysUptoRow : OpenClaim := { program := "ytmbaoaoglhonfaa", sum := "5ae48c04b6124989b1a0359bc504d2b8f809efd84e8e50aeef29e77dd98658ea", func := "taciturn/taciturnlaw15.MemPlays", spec := "memPlays", apart := false, narrowed := true }
def MemPlaysUptoSaid : Prop := memPlaysUptoRow.holds Try.pinned (OpenSpec.upto memPlaysSpec)

end Rows
end Go.Proofs.Ytmbaoaoglhonfaa
