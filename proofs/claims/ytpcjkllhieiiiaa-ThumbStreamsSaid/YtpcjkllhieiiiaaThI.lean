/- thumb.Encode of any instruction. -/
import Derived.Test.YtpcjkllhieiiiaaThF
import Derived.Test.YtpcjkllhieiiiaaThH
namespace Go.Proofs.Ytpcjkllhieiiiaa
open Go.RowKit On Th
theorem encode_c (i : Ins) (w : World) : Calls Try.prog 10 #[.agg #[.int .i64 i.op, .int .i64 i.d, .int .i64 i.n, .int .i64 i.m, .int .i64 i.imm, .int .i64 i.cond]] w fun e w' =>
    if rightS i then HalfAt (encL i) w e w' else e = .returned (.tuple #[.slice none 0 0, .int .i64 1]) ∧ Below w.heap.size w w' := by
  have hr : RightIs i (rightS i) := fun w => right_c i w
  obtain ⟨op, d, n, m, imm, cond⟩ := i
  cases h : rightS ⟨op, d, n, m, imm, cond⟩ with
  | false => rw [h] at hr; exact (encode_bad _ w hr).mono fun e w' h => h
  | true =>
    rw [h] at hr
    by_cases h28 : op = 28
    · subst h28; exact (encode28 d n m imm cond w hr).mono fun e w' h => h
    by_cases h43 : op = 43
    · subst h43; exact (encode43 d n m imm cond w hr).mono fun e w' h => h
    cases hrow : rowOf op with
    | none => unfold rightS at h; rw [if_neg h28, if_neg h43] at h; dsimp only at h; rw [hrow] at h; cases h
    | some p =>
      obtain ⟨b, l⟩ := p
      obtain ⟨k1, k2⟩ := rowOf_ok hrow
      have e : encL ⟨op, d, n, m, imm, cond⟩ = [encUp b l ⟨op, d, n, m, imm, cond⟩ l.length] := by unfold encL; rw [if_neg h28, if_neg h43]; dsimp only; rw [hrow]
      refine (encodeRow op d n m imm cond b l w hr h28 h43 (fun w => (find_c op w).mono fun e w' h => ?_) k1 k2).mono fun e' w' h => ?_
      · unfold FindAt at h; rw [hrow] at h; exact h
      · show HalfAt _ w e' w'; rw [e]; exact h
end Go.Proofs.Ytpcjkllhieiiiaa
