/- Stacks: the code of ChipStacks; what it does: plain. -/
import Derived.Test.YtpihjhfaeloapaaQs
namespace Go.Proofs.Ytpihjhfaeloapaa
open Go.RowKit On Th
def SK (l : Int) : List Ins := [⟨39, 0, 0, 0, l, 0⟩, ⟨44, 0, 0, 0, 1, 0⟩, ⟨40, 0, 0, 0, l, 0⟩, ⟨44, 0, 0, 0, 2, 0⟩]
def SKF (l : Int) : Nat → Int := loadB (fun _ => 0) 0 (flatE (SK l)) (flatE (SK l)).length
theorem SK_right (l : Int) (h0 : 1 ≤ l) (h1 : l ≤ 255) : ∀ i ∈ SK l, rightS i = true := by
  intro i hi
  simp [SK] at hi
  rcases hi with rfl | rfl | rfl | rfl
  · simp [rightS, rowOf, rowOk, rpS, im]; omega
  · decide
  · simp [rightS, rowOf, rowOk, rpS, im]; omega
  · decide
theorem SK_len (l : Int) (h0 : 1 ≤ l) (h1 : l ≤ 255) : canLoad 0 (flatE (SK l)).length := by
  have h := (flatE_range (SK_right l h0 h1)).2
  have : (SK l).length = 4 := rfl
  unfold canLoad
  omega
theorem sk_all : ((List.range 255).all fun n => decide (fetchS (SKF ((n : Int) + 1)) 0 = (⟨39, 0, 0, 0, (n : Int) + 1, 0⟩, 1, 0)) && decide (fetchS (SKF ((n : Int) + 1)) 2 = (⟨44, 0, 0, 0, 1, 0⟩, 1, 0)) && decide (fetchS (SKF ((n : Int) + 1)) 4 = (⟨40, 0, 0, 0, (n : Int) + 1, 0⟩, 1, 0)) && decide (fetchS (SKF ((n : Int) + 1)) 6 = (⟨44, 0, 0, 0, 2, 0⟩, 1, 0))) = true := by decide +kernel
theorem sk_fetch (l : Int) (h0 : 1 ≤ l) (h1 : l ≤ 255) : fetchS (SKF l) 0 = (⟨39, 0, 0, 0, l, 0⟩, 1, 0) ∧ fetchS (SKF l) 2 = (⟨44, 0, 0, 0, 1, 0⟩, 1, 0) ∧ fetchS (SKF l) 4 = (⟨40, 0, 0, 0, l, 0⟩, 1, 0) ∧ fetchS (SKF l) 6 = (⟨44, 0, 0, 0, 2, 0⟩, 1, 0) := by
  have h := List.all_eq_true.mp sk_all (l - 1).toNat (List.mem_range.mpr (by omega))
  have e : (((l - 1).toNat : Nat) : Int) + 1 = l := by omega
  rw [e] at h
  simpa [and_assoc] using h
/-- bits -/
theorem bitsTo_iff (imm : Int) (k : Nat) (x : Int) : x ∈ bitsTo imm k ↔ ∃ j : Nat, j < k ∧ x = j ∧ imm / 2 ^ j % 2 = 1 := by
  induction k with
  | zero => simp [bitsTo]
  | succ k ih =>
    unfold bitsTo
    rw [List.mem_append, ih]
    constructor
    · rintro (⟨j, h1, h2, h3⟩ | h)
      · exact ⟨j, by omega, h2, h3⟩
      · split at h
        · rename_i hb
          simp at h
          exact ⟨k, by omega, h, hb⟩
        · simp at h
    · rintro ⟨j, h1, rfl, h3⟩
      by_cases e : j = k
      · subst e; right; rw [if_pos h3]; simp
      · left; exact ⟨j, by omega, rfl, h3⟩
theorem bitsTo_sorted (imm : Int) (k : Nat) : (bitsTo imm k).Pairwise (· < ·) := by
  induction k with
  | zero => simp [bitsTo]
  | succ k ih =>
    unfold bitsTo
    rw [List.pairwise_append]
    refine ⟨ih, by split <;> simp, fun a ha b hb => ?_⟩
    obtain ⟨j, h1, rfl, _⟩ := (bitsTo_iff imm k a).mp ha
    split at hb
    · simp at hb; omega
    · simp at hb
theorem listS_small (l last : Int) (h0 : 1 ≤ l) (h1 : l ≤ 255) : listS l last = bitsTo l 8 := by
  unfold listS
  rw [if_neg (by omega), List.append_nil]
end Go.Proofs.Ytpihjhfaeloapaa
