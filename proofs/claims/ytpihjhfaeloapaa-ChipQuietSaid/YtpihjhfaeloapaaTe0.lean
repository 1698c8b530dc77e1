/- ref14.Encode: one halfword; what is reckoned out. -/
import Derived.Test.YtpihjhfaeloapaaThJ
import Derived.Test.YtpihjhfaeloapaaThF
import Derived.Test.YtpihjhfaeloapaaTh7
namespace Go.Proofs.Ytpihjhfaeloapaa
open Go.RowKit On Th
/-- one halfword, in new memory -/
def OneAt (x : Int) (w : World) (e : Ending) (w' : World) : Prop := ∃ g, e = .returned (.slice (some ⟨g, 0, none⟩) 1 1) ∧ Blk w' g 79 #[.int .u16 x] ∧ Below w.heap.size w w'
theorem one_c (x : Int) (w : World) : Calls Try.prog 31 #[.int .u16 x] w fun e w' => e = .returned (.slice (some ⟨w.heap.size, 0, none⟩) 1 1) ∧ w' = w.alloc (.cells #[.int .u16 x] 79) := by
  go_enter Try.func31, Try.ntmps31
  go_wp2_with fail
  go_ret
  exact ⟨rfl, rfl⟩
theorem enumB (B : Int → Int → Int → Int → Int → Bool) (op b : Int) (l : List Sl) (hrow : rowOf op = some (b, l)) (h28 : op ≠ 28) (h43 : op ≠ 43)
    (hall : ((domS l 0).all fun d => (domS l 1).all fun n => (domS l 2).all fun m => (domS l 3).all fun imm => (domS l 4).all fun c => B d n m imm c) = true)
    (d n m imm c : Int) (hr : rightS ⟨op, d, n, m, imm, c⟩ = true) : B d n m imm c = true := by
  unfold rightS at hr
  rw [if_neg h28, if_neg h43] at hr
  dsimp only at hr
  rw [hrow] at hr
  dsimp only at hr
  have hs := rowOf_ok2 hrow
  unfold rowOk at hr
  simp only [Bool.and_eq_true] at hr
  obtain ⟨⟨⟨⟨r1, r2⟩, r3⟩, r4⟩, r5⟩ := hr
  rw [List.all_eq_true] at hall
  have hall := hall d (dom_mem hs r1)
  rw [List.all_eq_true] at hall
  have hall := hall n (dom_mem hs r2)
  rw [List.all_eq_true] at hall
  have hall := hall m (dom_mem hs r3)
  rw [List.all_eq_true] at hall
  have hall := hall imm (dom_mem hs r4)
  rw [List.all_eq_true] at hall
  exact hall c (dom_mem hs r5)
/-- the document's halfwords -/
def RefEnc (i : Ins) (w : World) (e : Ending) (w' : World) : Prop := ∃ x, OneAt x w e w' ∧ (rightS i = true → encL i = [x])
end Go.Proofs.Ytpihjhfaeloapaa
