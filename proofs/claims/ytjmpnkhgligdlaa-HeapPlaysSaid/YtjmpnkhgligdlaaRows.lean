/-
  No cell of these rows narrows 'for every input' (looked for: loops, veiled, ifaces, maps, wideKeys, modest, calm, conditions, laid).
  DERIVED. THE GIVEN ROWS OF THIS SEAT. 8 by the template 'for every input the law returns true; each argument reads behind the call as it read before'; 0 by the template 'total and deterministic' (their statements: YtjmpnkhgligdlaaTotals.lean).
  GIVEN WITH THE SEED: the statements are not yours to turn. If you find one false, say at which input.
  Laid BY PROGRAM, IN A SANDBOX (cutbox-rows.mjs): the forced cells as the released guide's own fill.sh prints them over the translation c190c98cb7324d4f… (all of the seat's roots in one cut). By AI agents, Wed Nov 11 2026. No macro, syntax, notation, axiom, sorry.
-/
import Derived.Test.YtjmpnkhgligdlaaChecked
import GoSem.Claim
import GoSem.ClaimJoined
import GoSem.ClaimMapViews
import Derived.JoinedTies
import Derived.KernelRfl
namespace Go.Proofs.Ytjmpnkhgligdlaa
/- THE CELL 'sum', in the pinned program and in every row, IS THE sha256 OF THE DUMP (.gsa) THAT YtjmpnkhgligdlaaProg.lean LOADS. Nothing in Lean hashes anything: it is a label: what it is worth is what the hold of that sum in a sandbox is worth. -/
noncomputable def Try.pinned : Pinned := { name := "ytjmpnkhgligdlaa", sum := "c190c98cb7324d4fdfe709d769183d6ab8effeb33d6440d8f963fe2019773887", checked := Try.checked }
namespace Rows
def none {H : Type} : Left H := { results := [], args := [] }

/-- 'taciturnlaw8.HeapBytes': WHATEVER THE INPUT: true; the input reads as it did. -/
def heapBytesSpec : ChangeSpec := { name := "heapBytes", fn := fun _ => fun
  | [d] => { results := [.lit (.bool true)], args := [d] }
  | _ => none }
def heapBytesRow : OpenClaim := { program := "ytjmpnkhgligdlaa", sum := "c190c98cb7324d4fdfe709d769183d6ab8effeb33d6440d8f963fe2019773887", func := "taciturn/taciturnlaw8.HeapBytes", spec := "heapBytes", apart := false }
def HeapBytesSaid : Prop := heapBytesRow.holds Try.pinned (OpenSpec.ofChange heapBytesSpec)

/-- ITS FALSE NEIGHBOUR: 'it returns false'. Refute it at one input. -/
def heapBytesWrong : ChangeSpec := { name := "heapBytes", fn := fun _ => fun
  | [d] => { results := [.lit (.bool false)], args := [d] }
  | _ => none }
def HeapBytesWrongFalsely : Prop := heapBytesRow.holds Try.pinned (OpenSpec.ofChange heapBytesWrong)

/-- 'taciturnlaw8.HeapKnown': WHATEVER THE INPUT: true; the input reads as it did. -/
def heapKnownSpec : ChangeSpec := { name := "heapKnown", fn := fun _ => fun
  | [] => { results := [.lit (.bool true)], args := [] }
  | _ => none }
def heapKnownRow : OpenClaim := { program := "ytjmpnkhgligdlaa", sum := "c190c98cb7324d4fdfe709d769183d6ab8effeb33d6440d8f963fe2019773887", func := "taciturn/taciturnlaw8.HeapKnown", spec := "heapKnown", apart := false }
def HeapKnownSaid : Prop := heapKnownRow.holds Try.pinned (OpenSpec.ofChange heapKnownSpec)

/-- ITS FALSE NEIGHBOUR: 'it returns false'. Refute it at one input. -/
def heapKnownWrong : ChangeSpec := { name := "heapKnown", fn := fun _ => fun
  | [] => { results := [.lit (.bool false)], args := [] }
  | _ => none }
def HeapKnownWrongFalsely : Prop := heapKnownRow.holds Try.pinned (OpenSpec.ofChange heapKnownWrong)

/-- 'taciturnlaw8.HeapPlays': WHATEVER THE INPUT: true; the input reads as it did. -/
def heapPlaysSpec : ChangeSpec := { name := "heapPlays", fn := fun _ => fun
  | [d1, d2] => { results := [.lit (.bool true)], args := [d1, d2] }
  | _ => none }
def heapPlaysRow : OpenClaim := { program := "ytjmpnkhgligdlaa", sum := "c190c98cb7324d4fdfe709d769183d6ab8effeb33d6440d8f963fe2019773887", func := "taciturn/taciturnlaw8.HeapPlays", spec := "heapPlays", apart := false }
def HeapPlaysSaid : Prop := heapPlaysRow.holds Try.pinned (OpenSpec.ofChange heapPlaysSpec)

/-- ITS FALSE NEIGHBOUR: 'it returns false'. Refute it at one input. -/
def heapPlaysWrong : ChangeSpec := { name := "heapPlays", fn := fun _ => fun
  | [d1, d2] => { results := [.lit (.bool false)], args := [d1, d2] }
  | _ => none }
def HeapPlaysWrongFalsely : Prop := heapPlaysRow.holds Try.pinned (OpenSpec.ofChange heapPlaysWrong)

/-- 'taciturnlaw8.HeapForgets': WHATEVER THE INPUT: true; the input reads as it did. -/
def heapForgetsSpec : ChangeSpec := { name := "heapForgets", fn := fun _ => fun
  | [d1, d2, d3] => { results := [.lit (.bool true)], args := [d1, d2, d3] }
  | _ => none }
def heapForgetsRow : OpenClaim := { program := "ytjmpnkhgligdlaa", sum := "c190c98cb7324d4fdfe709d769183d6ab8effeb33d6440d8f963fe2019773887", func := "taciturn/taciturnlaw8.HeapForgets", spec := "heapForgets", apart := false }
def HeapForgetsSaid : Prop := heapForgetsRow.holds Try.pinned (OpenSpec.ofChange heapForgetsSpec)

/-- ITS FALSE NEIGHBOUR: 'it returns false'. Refute it at one input. -/
def heapForgetsWrong : ChangeSpec := { name := "heapForgets", fn := fun _ => fun
  | [d1, d2, d3] => { results := [.lit (.bool false)], args := [d1, d2, d3] }
  | _ => none }
def HeapForgetsWrongFalsely : Prop := heapForgetsRow.holds Try.pinned (OpenSpec.ofChange heapForgetsWrong)

/-- 'taciturnlaw9.WallKnown': WHATEVER THE INPUT: true; the input reads as it did. -/
def wallKnownSpec : ChangeSpec := { name := "wallKnown", fn := fun _ => fun
  | [] => { results := [.lit (.bool true)], args := [] }
  | _ => none }
def wallKnownRow : OpenClaim := { program := "ytjmpnkhgligdlaa", sum := "c190c98cb7324d4fdfe709d769183d6ab8effeb33d6440d8f963fe2019773887", func := "taciturn/taciturnlaw9.WallKnown", spec := "wallKnown", apart := false }
def WallKnownSaid : Prop := wallKnownRow.holds Try.pinned (OpenSpec.ofChange wallKnownSpec)

/-- ITS FALSE NEIGHBOUR: 'it returns false'. Refute it at one input. -/
def wallKnownWrong : ChangeSpec := { name := "wallKnown", fn := fun _ => fun
  | [] => { results := [.lit (.bool false)], args := [] }
  | _ => none }
def WallKnownWrongFalsely : Prop := wallKnownRow.holds Try.pinned (OpenSpec.ofChange wallKnownWrong)

/-- 'taciturnlaw9.WallTells': WHATEVER THE INPUT: true; the input reads as it did. -/
def wallTellsSpec : ChangeSpec := { name := "wallTells", fn := fun _ => fun
  | [d1, d2, d3, d4, d5, d6, d7] => { results := [.lit (.bool true)], args := [d1, d2, d3, d4, d5, d6, d7] }
  | _ => none }
def wallTellsRow : OpenClaim := { program := "ytjmpnkhgligdlaa", sum := "c190c98cb7324d4fdfe709d769183d6ab8effeb33d6440d8f963fe2019773887", func := "taciturn/taciturnlaw9.WallTells", spec := "wallTells", apart := false }
def WallTellsSaid : Prop := wallTellsRow.holds Try.pinned (OpenSpec.ofChange wallTellsSpec)

/-- ITS FALSE NEIGHBOUR: 'it returns false'. Refute it at one input. -/
def wallTellsWrong : ChangeSpec := { name := "wallTells", fn := fun _ => fun
  | [d1, d2, d3, d4, d5, d6, d7] => { results := [.lit (.bool false)], args := [d1, d2, d3, d4, d5, d6, d7] }
  | _ => none }
def WallTellsWrongFalsely : Prop := wallTellsRow.holds Try.pinned (OpenSpec.ofChange wallTellsWrong)

/-- 'taciturnlaw9.WallParts': WHATEVER THE INPUT: true; the input reads as it did. -/
def wallPartsSpec : ChangeSpec := { name := "wallParts", fn := fun _ => fun
  | [d1, d2, d3, d4, d5, d6, d7] => { results := [.lit (.bool true)], args := [d1, d2, d3, d4, d5, d6, d7] }
  | _ => none }
def wallPartsRow : OpenClaim := { program := "ytjmpnkhgligdlaa", sum := "c190c98cb7324d4fdfe709d769183d6ab8effeb33d6440d8f963fe2019773887", func := "taciturn/taciturnlaw9.WallParts", spec := "wallParts", apart := false }
def WallPartsSaid : Prop := wallPartsRow.holds Try.pinned (OpenSpec.ofChange wallPartsSpec)

/-- ITS FALSE NEIGHBOUR: 'it returns false'. Refute it at one input. -/
def wallPartsWrong : ChangeSpec := { name := "wallParts", fn := fun _ => fun
  | [d1, d2, d3, d4, d5, d6, d7] => { results := [.lit (.bool false)], args := [d1, d2, d3, d4, d5, d6, d7] }
  | _ => none }
def WallPartsWrongFalsely : Prop := wallPartsRow.holds Try.pinned (OpenSpec.ofChange wallPartsWrong)

/-- 'taciturnlaw9.WallHolds': WHATEVER THE INPUT: true; the input reads as it did. -/
def wallHoldsSpec : ChangeSpec := { name := "wallHolds", fn := fun _ => fun
  | [d1, d2, d3, d4, d5] => { results := [.lit (.bool true)], args := [d1, d2, d3, d4, d5] }
  | _ => none }
def wallHoldsRow : OpenClaim := { program := "ytjmpnkhgligdlaa", sum := "c190c98cb7324d4fdfe709d769183d6ab8effeb33d6440d8f963fe2019773887", func := "taciturn/taciturnlaw9.WallHolds", spec := "wallHolds", apart := false }
def WallHoldsSaid : Prop := wallHoldsRow.holds Try.pinned (OpenSpec.ofChange wallHoldsSpec)

/-- ITS FALSE NEIGHBOUR: 'it returns false'. Refute it at one input. -/
def wallHoldsWrong : ChangeSpec := { name := "wallHolds", fn := fun _ => fun
  | [d1, d2, d3, d4, d5] => { results := [.lit (.bool false)], args := [d1, d2, d3, d4, d5] }
  | _ => none }
def WallHoldsWrongFalsely : Prop := wallHoldsRow.holds Try.pinned (OpenSpec.ofChange wallHoldsWrong)

/- THE SECOND FORM. 'bulk': how many values and letters a reading holds, each counted each time it is reached (what is shared counts as often as it is met; a slice's spare places count too). A statement '..UptoSaid' is the law's where the arguments, and the package variables that the reading takes, are together of bulk at most 1048576: NARROWER than '..Said'. Prove '..Said' where nothing that the law and all that it calls make is longer than what came in: it says more and counts as full. Else prove '..UptoSaid'. A law counts once. -/
mutual
def uptoBulk {H : Type} : DataW H → Nat
  | .lit (.string bytes) => bytes.length + 1
  | .lit _ => 1
  | .nil => 1
  | .ptr d => uptoBulk d + 1
  | .slice elems spare => uptoBulkAll elems + uptoBulkAll spare + 1
  | .agg parts => uptoBulkAll parts + 1
  | .iface _ d => uptoBulk d + 1
  | .map entries => uptoBulkEntries entries + 1
  | .held _ => 1
def uptoBulkAll {H : Type} : List (DataW H) → Nat
  | [] => 0
  | d :: r => uptoBulk d + uptoBulkAll r
def uptoBulkEntries {H : Type} : List (Lit × DataW H) → Nat
  | [] => 0
  | x :: r => uptoBulkEntry x + uptoBulkEntries r
def uptoBulkEntry {H : Type} : Lit × DataW H → Nat
  | (.string bytes, d) => bytes.length + uptoBulk d + 1
  | (_, d) => uptoBulk d + 1
 end
def uptoSmall : (H : Type) → List (DataW H) → Bool := fun _ ds => decide (uptoBulkAll ds ≤ 1048576)
def OpenSpec.upto (s : _root_.Go.ChangeSpec) : _root_.Go.OpenSpec := { _root_.Go.OpenSpec.ofChange s with cond := some uptoSmall }

/-- 'taciturnlaw8.HeapBytes', WHERE WHAT IT READS IS OF BULK AT MOST 1048576: true; the input reads as it did. -/
def heapBytesUptoRow : OpenClaim := { program := "ytjmpnkhgligdlaa", sum := "c190c98cb7324d4fdfe709d769183d6ab8effeb33d6440d8f963fe2019773887", func := "taciturn/taciturnlaw8.HeapBytes", spec := "heapBytes", apart := false, narrowed := true }
def HeapBytesUptoSaid : Prop := heapBytesUptoRow.holds Try.pinned (OpenSpec.upto heapBytesSpec)

/-- 'taciturnlaw8.HeapKnown', WHERE WHAT IT READS IS OF BULK AT MOST 1048576: true; the input reads as it did. -/
def heapKnownUptoRow : OpenClaim := { program := "ytjmpnkhgligdlaa", sum := "c190c98cb7324d4fdfe709d769183d6ab8effeb33d6440d8f963fe2019773887", func := "taciturn/taciturnlaw8.HeapKnown", spec := "heapKnown", apart := false, narrowed := true }
def HeapKnownUptoSaid : Prop := heapKnownUptoRow.holds Try.pinned (OpenSpec.upto heapKnownSpec)

/-- 'taciturnlaw8.HeapPlays', WHERE WHAT IT READS IS OF BULK AT MOST 1048576: true; the input reads as it did. -/
def heapPlaysUptoRow : OpenClaim := { program := "ytjmpnkhgligdlaa", sum := "c190c98cb7324d4fdfe709d769183d6ab8effeb33d6440d8f963fe2019773887", func := "taciturn/taciturnlaw8.HeapPlays", spec := "heapPlays", apart := false, narrowed := true }
def HeapPlaysUptoSaid : Prop := heapPlaysUptoRow.holds Try.pinned (OpenSpec.upto heapPlaysSpec)

/-- 'taciturnlaw8.HeapForgets', WHERE WHAT IT READS IS OF BULK AT MOST 1048576: true; the input reads as it did. -/
def heapForgetsUptoRow : OpenClaim := { program := "ytjmpnkhgligdlaa", sum := "c190c98cb7324d4fdfe709d769183d6ab8effeb33d6440d8f963fe2019773887", func := "taciturn/taciturnlaw8.HeapForgets", spec := "heapForgets", apart := false, narrowed := true }
def HeapForgetsUptoSaid : Prop := heapForgetsUptoRow.holds Try.pinned (OpenSpec.upto heapForgetsSpec)

/-- 'taciturnlaw9.WallKnown', WHERE WHAT IT READS IS OF BULK AT MOST 1048576: true; the input reads as it did. -/
def wallKnownUptoRow : OpenClaim := { program := "ytjmpnkhgligdlaa", sum := "c190c98cb7324d4fdfe709d769183d6ab8effeb33d6440d8f963fe2019773887", func := "taciturn/taciturnlaw9.WallKnown", spec := "wallKnown", apart := false, narrowed := true }
def WallKnownUptoSaid : Prop := wallKnownUptoRow.holds Try.pinned (OpenSpec.upto wallKnownSpec)

/-- 'taciturnlaw9.WallTells', WHERE WHAT IT READS IS OF BULK AT MOST 1048576: true; the input reads as it did. -/
def wallTellsUptoRow : OpenClaim := { program := "ytjmpnkhgligdlaa", sum := "c190c98cb7324d4fdfe709d769183d6ab8effeb33d6440d8f963fe2019773887", func := "taciturn/taciturnlaw9.WallTells", spec := "wallTells", apart := false, narrowed := true }
def WallTellsUptoSaid : Prop := wallTellsUptoRow.holds Try.pinned (OpenSpec.upto wallTellsSpec)

/-- 'taciturnlaw9.WallParts', WHERE WHAT IT READS IS OF BULK AT MOST 1048576: true; the input reads as it did. -/
def wallPartsUptoRow : OpenClaim := { program := "ytjmpnkhgligdlaa", sum := "c190c98cb7324d4fdfe709d769183d6ab8effeb33d6440d8f963fe2019773887", func := "taciturn/taciturnlaw9.WallParts", spec := "wallParts", apart := false, narrowed := true }
def WallPartsUptoSaid : Prop := wallPartsUptoRow.holds Try.pinned (OpenSpec.upto wallPartsSpec)

/-- 'taciturnlaw9.WallHolds', WHERE WHAT IT READS IS OF BULK AT MOST 1048576: true; the input reads as it did. -/
def wallHoldsUptoRow : OpenClaim := { program := "ytjmpnkhgligdlaa", sum := "c190c98cb7324d4fdfe709d769183d6ab8effeb33d6440d8f963fe2019773887", func := "taciturn/taciturnlaw9.WallHolds", spec := "wallHolds", apart := false, narrowed := true }
def WallHoldsUptoSaid : Prop := wallHoldsUptoRow.holds Try.pinned (OpenSpec.upto wallHoldsSpec)

end Rows
end Go.Proofs.Ytjmpnkhgligdlaa
