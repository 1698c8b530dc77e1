/-
  No cell of these rows narrows 'for every input' (looked for: loops, veiled, ifaces, maps, wideKeys, modest, calm, conditions, laid).
  DERIVED. THE GIVEN ROWS OF THIS SEAT. 8 by the template 'for every input the law returns true; each argument reads behind the call as it read before'; 0 by the template 'total and deterministic' (their statements: YtpihjhfaeloapaaTotals.lean).
  GIVEN WITH THE SEED: the statements are not yours to turn. If you find one false, say at which input.
  Laid BY PROGRAM, IN A SANDBOX (cutbox-rows.mjs): the forced cells as the released guide's own fill.sh prints them over the translation 2c9d90a16727d2fd… (all of the seat's roots in one cut). By AI agents, Wed Nov 11 2026. No macro, syntax, notation, axiom, sorry.
-/
import Derived.Test.YtpihjhfaeloapaaChecked
import GoSem.Claim
import GoSem.ClaimJoined
import GoSem.ClaimMapViews
import Derived.JoinedTies
import Derived.KernelRfl
namespace Go.Proofs.Ytpihjhfaeloapaa
/- THE CELL 'sum', in the pinned program and in every row, IS THE sha256 OF THE DUMP (.gsa) THAT YtpihjhfaeloapaaProg.lean LOADS. Nothing in Lean hashes anything: it is a label: what it is worth is what the hold of that sum in a sandbox is worth. -/
noncomputable def Try.pinned : Pinned := { name := "ytpihjhfaeloapaa", sum := "2c9d90a16727d2fd03e9649634afc638308fd33be9db1b68584f4d755441ff06", checked := Try.checked }
namespace Rows
def none {H : Type} : Left H := { results := [], args := [] }

/-- 'taciturnlaw16.ChipSteps': WHATEVER THE INPUT: true; the input reads as it did. -/
def chipStepsSpec : ChangeSpec := { name := "chipSteps", fn := fun _ => fun
  | [d1, d2, d3, d4] => { results := [.lit (.bool true)], args := [d1, d2, d3, d4] }
  | _ => none }
def chipStepsRow : OpenClaim := { program := "ytpihjhfaeloapaa", sum := "2c9d90a16727d2fd03e9649634afc638308fd33be9db1b68584f4d755441ff06", func := "taciturn/taciturnlaw16.ChipSteps", spec := "chipSteps", unfollowed := true, recurses := true, apart := false }
def ChipStepsSaid : Prop := chipStepsRow.holds Try.pinned (OpenSpec.ofChange chipStepsSpec)

/-- ITS FALSE NEIGHBOUR: 'it returns false'. Refute it at one input. -/
def chipStepsWrong : ChangeSpec := { name := "chipSteps", fn := fun _ => fun
  | [d1, d2, d3, d4] => { results := [.lit (.bool false)], args := [d1, d2, d3, d4] }
  | _ => none }
def ChipStepsWrongFalsely : Prop := chipStepsRow.holds Try.pinned (OpenSpec.ofChange chipStepsWrong)

/-- 'taciturnlaw16.ChipConds': WHATEVER THE INPUT: true; the input reads as it did. -/
def chipCondsSpec : ChangeSpec := { name := "chipConds", fn := fun _ => fun
  | [d1, d2, d3, d4] => { results := [.lit (.bool true)], args := [d1, d2, d3, d4] }
  | _ => none }
def chipCondsRow : OpenClaim := { program := "ytpihjhfaeloapaa", sum := "2c9d90a16727d2fd03e9649634afc638308fd33be9db1b68584f4d755441ff06", func := "taciturn/taciturnlaw16.ChipConds", spec := "chipConds", apart := false }
def ChipCondsSaid : Prop := chipCondsRow.holds Try.pinned (OpenSpec.ofChange chipCondsSpec)

/-- ITS FALSE NEIGHBOUR: 'it returns false'. Refute it at one input. -/
def chipCondsWrong : ChangeSpec := { name := "chipConds", fn := fun _ => fun
  | [d1, d2, d3, d4] => { results := [.lit (.bool false)], args := [d1, d2, d3, d4] }
  | _ => none }
def ChipCondsWrongFalsely : Prop := chipCondsRow.holds Try.pinned (OpenSpec.ofChange chipCondsWrong)

/-- 'taciturnlaw16.ChipSums': WHATEVER THE INPUT: true; the input reads as it did. -/
def chipSumsSpec : ChangeSpec := { name := "chipSums", fn := fun _ => fun
  | [d1, d2, d3] => { results := [.lit (.bool true)], args := [d1, d2, d3] }
  | _ => none }
def chipSumsRow : OpenClaim := { program := "ytpihjhfaeloapaa", sum := "2c9d90a16727d2fd03e9649634afc638308fd33be9db1b68584f4d755441ff06", func := "taciturn/taciturnlaw16.ChipSums", spec := "chipSums", apart := false }
def ChipSumsSaid : Prop := chipSumsRow.holds Try.pinned (OpenSpec.ofChange chipSumsSpec)

/-- ITS FALSE NEIGHBOUR: 'it returns false'. Refute it at one input. -/
def chipSumsWrong : ChangeSpec := { name := "chipSums", fn := fun _ => fun
  | [d1, d2, d3] => { results := [.lit (.bool false)], args := [d1, d2, d3] }
  | _ => none }
def ChipSumsWrongFalsely : Prop := chipSumsRow.holds Try.pinned (OpenSpec.ofChange chipSumsWrong)

/-- 'taciturnlaw16.ChipStacks': WHATEVER THE INPUT: true; the input reads as it did. -/
def chipStacksSpec : ChangeSpec := { name := "chipStacks", fn := fun _ => fun
  | [d1, d2, d3] => { results := [.lit (.bool true)], args := [d1, d2, d3] }
  | _ => none }
def chipStacksRow : OpenClaim := { program := "ytpihjhfaeloapaa", sum := "2c9d90a16727d2fd03e9649634afc638308fd33be9db1b68584f4d755441ff06", func := "taciturn/taciturnlaw16.ChipStacks", spec := "chipStacks", apart := false }
def ChipStacksSaid : Prop := chipStacksRow.holds Try.pinned (OpenSpec.ofChange chipStacksSpec)

/-- ITS FALSE NEIGHBOUR: 'it returns false'. Refute it at one input. -/
def chipStacksWrong : ChangeSpec := { name := "chipStacks", fn := fun _ => fun
  | [d1, d2, d3] => { results := [.lit (.bool false)], args := [d1, d2, d3] }
  | _ => none }
def ChipStacksWrongFalsely : Prop := chipStacksRow.holds Try.pinned (OpenSpec.ofChange chipStacksWrong)

/-- 'taciturnlaw16.ChipStops': WHATEVER THE INPUT: true; the input reads as it did. -/
def chipStopsSpec : ChangeSpec := { name := "chipStops", fn := fun _ => fun
  | [d1, d2] => { results := [.lit (.bool true)], args := [d1, d2] }
  | _ => none }
def chipStopsRow : OpenClaim := { program := "ytpihjhfaeloapaa", sum := "2c9d90a16727d2fd03e9649634afc638308fd33be9db1b68584f4d755441ff06", func := "taciturn/taciturnlaw16.ChipStops", spec := "chipStops", apart := false }
def ChipStopsSaid : Prop := chipStopsRow.holds Try.pinned (OpenSpec.ofChange chipStopsSpec)

/-- ITS FALSE NEIGHBOUR: 'it returns false'. Refute it at one input. -/
def chipStopsWrong : ChangeSpec := { name := "chipStops", fn := fun _ => fun
  | [d1, d2] => { results := [.lit (.bool false)], args := [d1, d2] }
  | _ => none }
def ChipStopsWrongFalsely : Prop := chipStopsRow.holds Try.pinned (OpenSpec.ofChange chipStopsWrong)

/-- 'taciturnlaw16.ChipKnown': WHATEVER THE INPUT: true; the input reads as it did. -/
def chipKnownSpec : ChangeSpec := { name := "chipKnown", fn := fun _ => fun
  | [] => { results := [.lit (.bool true)], args := [] }
  | _ => none }
def chipKnownRow : OpenClaim := { program := "ytpihjhfaeloapaa", sum := "2c9d90a16727d2fd03e9649634afc638308fd33be9db1b68584f4d755441ff06", func := "taciturn/taciturnlaw16.ChipKnown", spec := "chipKnown", apart := false }
def ChipKnownSaid : Prop := chipKnownRow.holds Try.pinned (OpenSpec.ofChange chipKnownSpec)

/-- ITS FALSE NEIGHBOUR: 'it returns false'. Refute it at one input. -/
def chipKnownWrong : ChangeSpec := { name := "chipKnown", fn := fun _ => fun
  | [] => { results := [.lit (.bool false)], args := [] }
  | _ => none }
def ChipKnownWrongFalsely : Prop := chipKnownRow.holds Try.pinned (OpenSpec.ofChange chipKnownWrong)

/-- 'taciturnlaw16.ChipQuiet': WHATEVER THE INPUT: true; the input reads as it did. -/
def chipQuietSpec : ChangeSpec := { name := "chipQuiet", fn := fun _ => fun
  | [d1, d2, d3, d4] => { results := [.lit (.bool true)], args := [d1, d2, d3, d4] }
  | _ => none }
def chipQuietRow : OpenClaim := { program := "ytpihjhfaeloapaa", sum := "2c9d90a16727d2fd03e9649634afc638308fd33be9db1b68584f4d755441ff06", func := "taciturn/taciturnlaw16.ChipQuiet", spec := "chipQuiet", unfollowed := true, recurses := true, apart := false }
def ChipQuietSaid : Prop := chipQuietRow.holds Try.pinned (OpenSpec.ofChange chipQuietSpec)

/-- ITS FALSE NEIGHBOUR: 'it returns false'. Refute it at one input. -/
def chipQuietWrong : ChangeSpec := { name := "chipQuiet", fn := fun _ => fun
  | [d1, d2, d3, d4] => { results := [.lit (.bool false)], args := [d1, d2, d3, d4] }
  | _ => none }
def ChipQuietWrongFalsely : Prop := chipQuietRow.holds Try.pinned (OpenSpec.ofChange chipQuietWrong)

/-- 'taciturnlaw16.ChipMemory': WHATEVER THE INPUT: true; the input reads as it did. -/
def chipMemorySpec : ChangeSpec := { name := "chipMemory", fn := fun _ => fun
  | [d1, d2, d3, d4] => { results := [.lit (.bool true)], args := [d1, d2, d3, d4] }
  | _ => none }
def chipMemoryRow : OpenClaim := { program := "ytpihjhfaeloapaa", sum := "2c9d90a16727d2fd03e9649634afc638308fd33be9db1b68584f4d755441ff06", func := "taciturn/taciturnlaw16.ChipMemory", spec := "chipMemory", apart := false }
def ChipMemorySaid : Prop := chipMemoryRow.holds Try.pinned (OpenSpec.ofChange chipMemorySpec)

/-- ITS FALSE NEIGHBOUR: 'it returns false'. Refute it at one input. -/
def chipMemoryWrong : ChangeSpec := { name := "chipMemory", fn := fun _ => fun
  | [d1, d2, d3, d4] => { results := [.lit (.bool false)], args := [d1, d2, d3, d4] }
  | _ => none }
def ChipMemoryWrongFalsely : Prop := chipMemoryRow.holds Try.pinned (OpenSpec.ofChange chipMemoryWrong)

/- THE SECOND FORM. 'bulk': how many values and letters a reading holds, each counted each time it is reached (what is shared counts as often as it is met; a slice's spare places count too). A statement '..UptoSaid' is the law's where the arguments, and the package variables that the reading takes, are together of bulk at most 1048576: NARROWER than '..Said'. Prove '..Said' where nothing that the law and all that it calls make is longer than what came in: it says more and counts as full. Else prove '..UptoSaid'. A law counts once. -/
mutual
def uptoBulk {H : Type} : DataW H → Nat
  | .lit (.string bytes) => bytes.length + 1
  | .lit _ => 1
  | .nil => 1
  | .ptr d => uptoBulk d + 1
  | .slice elems spare => uptoBulkAll elems + uptoBulkAll spare + 1
  | .agg parts => uptoBulkAll parts + 1
  | .iface _ d => uptoBulk d + 1
  | .map entries => uptoBulkEntries entries + 1
  | .held _ => 1
def uptoBulkAll {H : Type} : List (DataW H) → Nat
  | [] => 0
  | d :: r => uptoBulk d + uptoBulkAll r
def uptoBulkEntries {H : Type} : List (Lit × DataW H) → Nat
  | [] => 0
  | x :: r => uptoBulkEntry x + uptoBulkEntries r
def uptoBulkEntry {H : Type} : Lit × DataW H → Nat
  | (.string bytes, d) => bytes.length + uptoBulk d + 1
  | (_, d) => uptoBulk d + 1
 end
def uptoSmall : (H : Type) → List (DataW H) → Bool := fun _ ds => decide (uptoBulkAll ds ≤ 1048576)
def OpenSpec.upto (s : _root_.Go.ChangeSpec) : _root_.Go.OpenSpec := { _root_.Go.OpenSpec.ofChange s with cond := some uptoSmall }

/-- 'taciturnlaw16.ChipSteps', WHERE WHAT IT READS IS OF BULK AT MOST 1048576: true; the input reads as it did. -/
def chipStepsUptoRow : OpenClaim := { program := "ytpihjhfaeloapaa", sum := "2c9d90a16727d2fd03e9649634afc638308fd33be9db1b68584f4d755441ff06", func := "taciturn/taciturnlaw16.ChipSteps", spec := "chipSteps", unfollowed := true, recurses := true, apart := false, narrowed := true }
def ChipStepsUptoSaid : Prop := chipStepsUptoRow.holds Try.pinned (OpenSpec.upto chipStepsSpec)

/-- 'taciturnlaw16.ChipConds', WHERE WHAT IT READS IS OF BULK AT MOST 1048576: true; the input reads as it did. -/
def chipCondsUptoRow : OpenClaim := { program := "ytpihjhfaeloapaa", sum := "2c9d90a16727d2fd03e9649634afc638308fd33be9db1b68584f4d755441ff06", func := "taciturn/taciturnlaw16.ChipConds", spec := "chipConds", apart := false, narrowed := true }
def ChipCondsUptoSaid : Prop := chipCondsUptoRow.holds Try.pinned (OpenSpec.upto chipCondsSpec)

/-- 'taciturnlaw16.ChipSums', WHERE WHAT IT READS IS OF BULK AT MOST 1048576: true; the input reads as it did. -/
def chipSumsUptoRow : OpenClaim := { program := "ytpihjhfaeloapaa", sum := "2c9d90a16727d2fd03e9649634afc638308fd33be9db1b68584f4d755441ff06", func := "taciturn/taciturnlaw16.ChipSums", spec := "chipSums", apart := false, narrowed := true }
def ChipSumsUptoSaid : Prop := chipSumsUptoRow.holds Try.pinned (OpenSpec.upto chipSumsSpec)

/-- 'taciturnlaw16.ChipStacks', WHERE WHAT IT READS IS OF BULK AT MOST 1048576: true; the input reads as it did. -/
def chipStacksUptoRow : OpenClaim := { program := "ytpihjhfaeloapaa", sum := "2c9d90a16727d2fd03e9649634afc638308fd33be9db1b68584f4d755441ff06", func := "taciturn/taciturnlaw16.ChipStacks", spec := "chipStacks", apart := false, narrowed := true }
def ChipStacksUptoSaid : Prop := chipStacksUptoRow.holds Try.pinned (OpenSpec.upto chipStacksSpec)

/-- 'taciturnlaw16.ChipStops', WHERE WHAT IT READS IS OF BULK AT MOST 1048576: true; the input reads as it did. -/
def chipStopsUptoRow : OpenClaim := { program := "ytpihjhfaeloapaa", sum := "2c9d90a16727d2fd03e9649634afc638308fd33be9db1b68584f4d755441ff06", func := "taciturn/taciturnlaw16.ChipStops", spec := "chipStops", apart := false, narrowed := true }
def ChipStopsUptoSaid : Prop := chipStopsUptoRow.holds Try.pinned (OpenSpec.upto chipStopsSpec)

/-- 'taciturnlaw16.ChipKnown', WHERE WHAT IT READS IS OF BULK AT MOST 1048576: true; the input reads as it did. -/
def chipKnownUptoRow : OpenClaim := { program := "ytpihjhfaeloapaa", sum := "2c9d90a16727d2fd03e9649634afc638308fd33be9db1b68584f4d755441ff06", func := "taciturn/taciturnlaw16.ChipKnown", spec := "chipKnown", apart := false, narrowed := true }
def ChipKnownUptoSaid : Prop := chipKnownUptoRow.holds Try.pinned (OpenSpec.upto chipKnownSpec)

/-- 'taciturnlaw16.ChipQuiet', WHERE WHAT IT READS IS OF BULK AT MOST 1048576: true; the input reads as it did. -/
def chipQuietUptoRow : OpenClaim := { program := "ytpihjhfaeloapaa", sum := "2c9d90a16727d2fd03e9649634afc638308fd33be9db1b68584f4d755441ff06", func := "taciturn/taciturnlaw16.ChipQuiet", spec := "chipQuiet", unfollowed := true, recurses := true, apart := false, narrowed := true }
def ChipQuietUptoSaid : Prop := chipQuietUptoRow.holds Try.pinned (OpenSpec.upto chipQuietSpec)

/-- 'taciturnlaw16.ChipMemory', WHERE WHAT IT READS IS OF BULK AT MOST 1048576: true; the input reads as it did. -/
def chipMemoryUptoRow : OpenClaim := { program := "ytpihjhfaeloapaa", sum := "2c9d90a16727d2fd03e9649634afc638308fd33be9db1b68584f4d755441ff06", func := "taciturn/taciturnlaw16.ChipMemory", spec := "chipMemory", apart := false, narrowed := true }
def ChipMemoryUptoSaid : Prop := chipMemoryUptoRow.holds Try.pinned (OpenSpec.upto chipMemorySpec)

end Rows
end Go.Proofs.Ytpihjhfaeloapaa
