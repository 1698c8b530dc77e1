/-
  No cell of these rows narrows 'for every input' (looked for: loops, veiled, ifaces, maps, wideKeys, modest, calm, conditions, laid).
  DERIVED. THE GIVEN ROWS OF THIS SEAT. 6 by the template 'for every input the law returns true; each argument reads behind the call as it read before'; 0 by the template 'total and deterministic' (their statements: YtpcjkllhieiiiaaTotals.lean).
  GIVEN WITH THE SEED: the statements are not yours to turn. If you find one false, say at which input.
  Laid BY PROGRAM, IN A SANDBOX (cutbox-rows.mjs): the forced cells as the released guide's own fill.sh prints them over the translation d61624335cbc3015… (all of the seat's roots in one cut). By AI agents, Wed Nov 11 2026. No macro, syntax, notation, axiom, sorry.
-/
import Derived.Test.YtpcjkllhieiiiaaChecked
import GoSem.Claim
import GoSem.ClaimJoined
import GoSem.ClaimMapViews
import Derived.JoinedTies
import Derived.KernelRfl
namespace Go.Proofs.Ytpcjkllhieiiiaa
/- THE CELL 'sum', in the pinned program and in every row, IS THE sha256 OF THE DUMP (.gsa) THAT YtpcjkllhieiiiaaProg.lean LOADS. Nothing in Lean hashes anything: it is a label: what it is worth is what the hold of that sum in a sandbox is worth. -/
noncomputable def Try.pinned : Pinned := { name := "ytpcjkllhieiiiaa", sum := "d61624335cbc30153176e7e91fe22419786cce60ab24f0cadcd9af31799f3b3b", checked := Try.checked }
namespace Rows
def none {H : Type} : Left H := { results := [], args := [] }

/-- 'taciturnlaw14.ThumbEncodes': WHATEVER THE INPUT: true; the input reads as it did. -/
def thumbEncodesSpec : ChangeSpec := { name := "thumbEncodes", fn := fun _ => fun
  | [d1, d2, d3] => { results := [.lit (.bool true)], args := [d1, d2, d3] }
  | _ => none }
def thumbEncodesRow : OpenClaim := { program := "ytpcjkllhieiiiaa", sum := "d61624335cbc30153176e7e91fe22419786cce60ab24f0cadcd9af31799f3b3b", func := "taciturn/taciturnlaw14.ThumbEncodes", spec := "thumbEncodes", apart := false }
def ThumbEncodesSaid : Prop := thumbEncodesRow.holds Try.pinned (OpenSpec.ofChange thumbEncodesSpec)

/-- ITS FALSE NEIGHBOUR: 'it returns false'. Refute it at one input. -/
def thumbEncodesWrong : ChangeSpec := { name := "thumbEncodes", fn := fun _ => fun
  | [d1, d2, d3] => { results := [.lit (.bool false)], args := [d1, d2, d3] }
  | _ => none }
def ThumbEncodesWrongFalsely : Prop := thumbEncodesRow.holds Try.pinned (OpenSpec.ofChange thumbEncodesWrong)

/-- 'taciturnlaw14.ThumbApart': WHATEVER THE INPUT: true; the input reads as it did. -/
def thumbApartSpec : ChangeSpec := { name := "thumbApart", fn := fun _ => fun
  | [d1, d2, d3, d4] => { results := [.lit (.bool true)], args := [d1, d2, d3, d4] }
  | _ => none }
def thumbApartRow : OpenClaim := { program := "ytpcjkllhieiiiaa", sum := "d61624335cbc30153176e7e91fe22419786cce60ab24f0cadcd9af31799f3b3b", func := "taciturn/taciturnlaw14.ThumbApart", spec := "thumbApart", apart := false }
def ThumbApartSaid : Prop := thumbApartRow.holds Try.pinned (OpenSpec.ofChange thumbApartSpec)

/-- ITS FALSE NEIGHBOUR: 'it returns false'. Refute it at one input. -/
def thumbApartWrong : ChangeSpec := { name := "thumbApart", fn := fun _ => fun
  | [d1, d2, d3, d4] => { results := [.lit (.bool false)], args := [d1, d2, d3, d4] }
  | _ => none }
def ThumbApartWrongFalsely : Prop := thumbApartRow.holds Try.pinned (OpenSpec.ofChange thumbApartWrong)

/-- 'taciturnlaw14.ThumbDecodes': WHATEVER THE INPUT: true; the input reads as it did. -/
def thumbDecodesSpec : ChangeSpec := { name := "thumbDecodes", fn := fun _ => fun
  | [d1, d2, d3, d4] => { results := [.lit (.bool true)], args := [d1, d2, d3, d4] }
  | _ => none }
def thumbDecodesRow : OpenClaim := { program := "ytpcjkllhieiiiaa", sum := "d61624335cbc30153176e7e91fe22419786cce60ab24f0cadcd9af31799f3b3b", func := "taciturn/taciturnlaw14.ThumbDecodes", spec := "thumbDecodes", apart := false }
def ThumbDecodesSaid : Prop := thumbDecodesRow.holds Try.pinned (OpenSpec.ofChange thumbDecodesSpec)

/-- ITS FALSE NEIGHBOUR: 'it returns false'. Refute it at one input. -/
def thumbDecodesWrong : ChangeSpec := { name := "thumbDecodes", fn := fun _ => fun
  | [d1, d2, d3, d4] => { results := [.lit (.bool false)], args := [d1, d2, d3, d4] }
  | _ => none }
def ThumbDecodesWrongFalsely : Prop := thumbDecodesRow.holds Try.pinned (OpenSpec.ofChange thumbDecodesWrong)

/-- 'taciturnlaw14.ThumbStreams': WHATEVER THE INPUT: true; the input reads as it did. -/
def thumbStreamsSpec : ChangeSpec := { name := "thumbStreams", fn := fun _ => fun
  | [d] => { results := [.lit (.bool true)], args := [d] }
  | _ => none }
def thumbStreamsRow : OpenClaim := { program := "ytpcjkllhieiiiaa", sum := "d61624335cbc30153176e7e91fe22419786cce60ab24f0cadcd9af31799f3b3b", func := "taciturn/taciturnlaw14.ThumbStreams", spec := "thumbStreams", apart := false }
def ThumbStreamsSaid : Prop := thumbStreamsRow.holds Try.pinned (OpenSpec.ofChange thumbStreamsSpec)

/-- ITS FALSE NEIGHBOUR: 'it returns false'. Refute it at one input. -/
def thumbStreamsWrong : ChangeSpec := { name := "thumbStreams", fn := fun _ => fun
  | [d] => { results := [.lit (.bool false)], args := [d] }
  | _ => none }
def ThumbStreamsWrongFalsely : Prop := thumbStreamsRow.holds Try.pinned (OpenSpec.ofChange thumbStreamsWrong)

/-- 'taciturnlaw14.ThumbKnown': WHATEVER THE INPUT: true; the input reads as it did. -/
def thumbKnownSpec : ChangeSpec := { name := "thumbKnown", fn := fun _ => fun
  | [] => { results := [.lit (.bool true)], args := [] }
  | _ => none }
def thumbKnownRow : OpenClaim := { program := "ytpcjkllhieiiiaa", sum := "d61624335cbc30153176e7e91fe22419786cce60ab24f0cadcd9af31799f3b3b", func := "taciturn/taciturnlaw14.ThumbKnown", spec := "thumbKnown", apart := false }
def ThumbKnownSaid : Prop := thumbKnownRow.holds Try.pinned (OpenSpec.ofChange thumbKnownSpec)

/-- ITS FALSE NEIGHBOUR: 'it returns false'. Refute it at one input. -/
def thumbKnownWrong : ChangeSpec := { name := "thumbKnown", fn := fun _ => fun
  | [] => { results := [.lit (.bool false)], args := [] }
  | _ => none }
def ThumbKnownWrongFalsely : Prop := thumbKnownRow.holds Try.pinned (OpenSpec.ofChange thumbKnownWrong)

/-- 'taciturnlaw14.ThumbBack': WHATEVER THE INPUT: true; the input reads as it did. -/
def thumbBackSpec : ChangeSpec := { name := "thumbBack", fn := fun _ => fun
  | [d1, d2, d3, d4] => { results := [.lit (.bool true)], args := [d1, d2, d3, d4] }
  | _ => none }
def thumbBackRow : OpenClaim := { program := "ytpcjkllhieiiiaa", sum := "d61624335cbc30153176e7e91fe22419786cce60ab24f0cadcd9af31799f3b3b", func := "taciturn/taciturnlaw14.ThumbBack", spec := "thumbBack", apart := false }
def ThumbBackSaid : Prop := thumbBackRow.holds Try.pinned (OpenSpec.ofChange thumbBackSpec)

/-- ITS FALSE NEIGHBOUR: 'it returns false'. Refute it at one input. -/
def thumbBackWrong : ChangeSpec := { name := "thumbBack", fn := fun _ => fun
  | [d1, d2, d3, d4] => { results := [.lit (.bool false)], args := [d1, d2, d3, d4] }
  | _ => none }
def ThumbBackWrongFalsely : Prop := thumbBackRow.holds Try.pinned (OpenSpec.ofChange thumbBackWrong)

/- THE SECOND FORM. 'bulk': how many values and letters a reading holds, each counted each time it is reached (what is shared counts as often as it is met; a slice's spare places count too). A statement '..UptoSaid' is the law's where the arguments, and the package variables that the reading takes, are together of bulk at most 1048576: NARROWER than '..Said'. Prove '..Said' where nothing that the law and all that it calls make is longer than what came in: it says more and counts as full. Else prove '..UptoSaid'. A law counts once. -/
mutual
def uptoBulk {H : Type} : DataW H → Nat
  | .lit (.string bytes) => bytes.length + 1
  | .lit _ => 1
  | .nil => 1
  | .ptr d => uptoBulk d + 1
  | .slice elems spare => uptoBulkAll elems + uptoBulkAll spare + 1
  | .agg parts => uptoBulkAll parts + 1
  | .iface _ d => uptoBulk d + 1
  | .map entries => uptoBulkEntries entries + 1
  | .held _ => 1
def uptoBulkAll {H : Type} : List (DataW H) → Nat
  | [] => 0
  | d :: r => uptoBulk d + uptoBulkAll r
def uptoBulkEntries {H : Type} : List (Lit × DataW H) → Nat
  | [] => 0
  | x :: r => uptoBulkEntry x + uptoBulkEntries r
def uptoBulkEntry {H : Type} : Lit × DataW H → Nat
  | (.string bytes, d) => bytes.length + uptoBulk d + 1
  | (_, d) => uptoBulk d + 1
 end
def uptoSmall : (H : Type) → List (DataW H) → Bool := fun _ ds => decide (uptoBulkAll ds ≤ 1048576)
def OpenSpec.upto (s : _root_.Go.ChangeSpec) : _root_.Go.OpenSpec := { _root_.Go.OpenSpec.ofChange s with cond := some uptoSmall }

/-- 'taciturnlaw14.ThumbEncodes', WHERE WHAT IT READS IS OF BULK AT MOST 1048576: true; the input reads as it did. -/
def thumbEncodesUptoRow : OpenClaim := { program := "ytpcjkllhieiiiaa", sum := "d61624335cbc30153176e7e91fe22419786cce60ab24f0cadcd9af31799f3b3b", func := "taciturn/taciturnlaw14.ThumbEncodes", spec := "thumbEncodes", apart := false, narrowed := true }
def ThumbEncodesUptoSaid : Prop := thumbEncodesUptoRow.holds Try.pinned (OpenSpec.upto thumbEncodesSpec)

/-- 'taciturnlaw14.ThumbApart', WHERE WHAT IT READS IS OF BULK AT MOST 1048576: true; the input reads as it did. -/
def thumbApartUptoRow : OpenClaim := { program := "ytpcjkllhieiiiaa", sum := "d61624335cbc30153176e7e91fe22419786cce60ab24f0cadcd9af31799f3b3b", func := "taciturn/taciturnlaw14.ThumbApart", spec := "thumbApart", apart := false, narrowed := true }
def ThumbApartUptoSaid : Prop := thumbApartUptoRow.holds Try.pinned (OpenSpec.upto thumbApartSpec)

/-- 'taciturnlaw14.ThumbDecodes', WHERE WHAT IT READS IS OF BULK AT MOST 1048576: true; the input reads as it did. -/
def thumbDecodesUptoRow : OpenClaim := { program := "ytpcjkllhieiiiaa", sum := "d61624335cbc30153176e7e91fe22419786cce60ab24f0cadcd9af31799f3b3b", func := "taciturn/taciturnlaw14.ThumbDecodes", spec := "thumbDecodes", apart := false, narrowed := true }
def ThumbDecodesUptoSaid : Prop := thumbDecodesUptoRow.holds Try.pinned (OpenSpec.upto thumbDecodesSpec)

/-- 'taciturnlaw14.ThumbStreams', WHERE WHAT IT READS IS OF BULK AT MOST 1048576: true; the input reads as it did. -/
def thumbStreamsUptoRow : OpenClaim := { program := "ytpcjkllhieiiiaa", sum := "d61624335cbc30153176e7e91fe22419786cce60ab24f0cadcd9af31799f3b3b", func := "taciturn/taciturnlaw14.ThumbStreams", spec := "thumbStreams", apart := false, narrowed := true }
def ThumbStreamsUptoSaid : Prop := thumbStreamsUptoRow.holds Try.pinned (OpenSpec.upto thumbStreamsSpec)

/-- 'taciturnlaw14.ThumbKnown', WHERE WHAT IT READS IS OF BULK AT MOST 1048576: true; the input reads as it did. -/
def thumbKnownUptoRow : OpenClaim := { program := "ytpcjkllhieiiiaa", sum := "d61624335cbc30153176e7e91fe22419786cce60ab24f0cadcd9af31799f3b3b", func := "taciturn/taciturnlaw14.ThumbKnown", spec := "thumbKnown", apart := false, narrowed := true }
def ThumbKnownUptoSaid : Prop := thumbKnownUptoRow.holds Try.pinned (OpenSpec.upto thumbKnownSpec)

/-- 'taciturnlaw14.ThumbBack', WHERE WHAT IT READS IS OF BULK AT MOST 1048576: true; the input reads as it did. -/
def thumbBackUptoRow : OpenClaim := { program := "ytpcjkllhieiiiaa", sum := "d61624335cbc30153176e7e91fe22419786cce60ab24f0cadcd9af31799f3b3b", func := "taciturn/taciturnlaw14.ThumbBack", spec := "thumbBack", apart := false, narrowed := true }
def ThumbBackUptoSaid : Prop := thumbBackUptoRow.holds Try.pinned (OpenSpec.upto thumbBackSpec)

end Rows
end Go.Proofs.Ytpcjkllhieiiiaa
