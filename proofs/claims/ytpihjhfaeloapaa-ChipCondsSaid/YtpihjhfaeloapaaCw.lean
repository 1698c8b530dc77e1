/- What ChipConds' code does. PRINTED by gencw.py. -/
import Derived.Test.YtpihjhfaeloapaaCy
import Derived.Test.YtpihjhfaeloapaaCv
namespace Go.Proofs.Ytpihjhfaeloapaa
open Go.RowKit On Th
def CD (op k : Int) : List Ins := [⟨op, 0, 0, 1, 0, 0⟩, ⟨41, 0, 0, 0, 8, k⟩]
def CDF (op k : Int) : Nat → Int := loadB (fun _ => 0) 0 (flatE (CD op k)) (flatE (CD op k)).length
def CD0 (a b : Int) : Ch := ⟨[a, b, 0, 0, 0, 0, 0, 0, 0, 0, 0, 0, 0, 0, 0, 0], false, false, false, false, 0, 0, 0⟩
def CDb (a b : Int) (nf zf cf vf : Bool) : Ch := ⟨[a, b, 0, 0, 0, 0, 0, 0, 0, 0, 0, 0, 0, 0, 0, 2], nf, zf, cf, vf, 0, 0, 1⟩
theorem runUp_two (mp : Value) (c : Ch) (f : Nat → Int) : (runUp mp c f 2).1 = (stepS mp (stepS mp c f).1 (stepS mp c f).2.1).1 := rfl
def CD1 (a b b' : Int) (k : Bool) : Ch := CDb a b (sumX a b' k / 2147483648 == 1) (sumX a b' k == 0) ((a + b' + cb k) / 4294967296 == 1) (vS a b' (sumX a b' k))
theorem cd_a_22_0 (mp : Value) (a b : Int) : stepS mp (CD0 a b) (CDF 22 0) = (CD1 a b (4294967295 - b) true, CDF 22 0, [⟨4, 0, -1, 1⟩]) := by kernel_rfl
theorem cd_b_22_0 (mp : Value) (a b : Int) (nf zf cf vf : Bool) : (stepS mp (CDb a b nf zf cf vf) (CDF 22 0)).1.R.getD 15 0 = if holdsS nf zf cf vf 0 then 14 else 4 := by
  cases nf <;> cases zf <;> cases cf <;> cases vf <;> kernel_rfl
theorem cd_a_22_1 (mp : Value) (a b : Int) : stepS mp (CD0 a b) (CDF 22 1) = (CD1 a b (4294967295 - b) true, CDF 22 1, [⟨4, 0, -1, 1⟩]) := by kernel_rfl
theorem cd_b_22_1 (mp : Value) (a b : Int) (nf zf cf vf : Bool) : (stepS mp (CDb a b nf zf cf vf) (CDF 22 1)).1.R.getD 15 0 = if holdsS nf zf cf vf 1 then 14 else 4 := by
  cases nf <;> cases zf <;> cases cf <;> cases vf <;> kernel_rfl
theorem cd_a_22_2 (mp : Value) (a b : Int) : stepS mp (CD0 a b) (CDF 22 2) = (CD1 a b (4294967295 - b) true, CDF 22 2, [⟨4, 0, -1, 1⟩]) := by kernel_rfl
theorem cd_b_22_2 (mp : Value) (a b : Int) (nf zf cf vf : Bool) : (stepS mp (CDb a b nf zf cf vf) (CDF 22 2)).1.R.getD 15 0 = if holdsS nf zf cf vf 2 then 14 else 4 := by
  cases nf <;> cases zf <;> cases cf <;> cases vf <;> kernel_rfl
theorem cd_a_22_3 (mp : Value) (a b : Int) : stepS mp (CD0 a b) (CDF 22 3) = (CD1 a b (4294967295 - b) true, CDF 22 3, [⟨4, 0, -1, 1⟩]) := by kernel_rfl
theorem cd_b_22_3 (mp : Value) (a b : Int) (nf zf cf vf : Bool) : (stepS mp (CDb a b nf zf cf vf) (CDF 22 3)).1.R.getD 15 0 = if holdsS nf zf cf vf 3 then 14 else 4 := by
  cases nf <;> cases zf <;> cases cf <;> cases vf <;> kernel_rfl
theorem cd_a_22_4 (mp : Value) (a b : Int) : stepS mp (CD0 a b) (CDF 22 4) = (CD1 a b (4294967295 - b) true, CDF 22 4, [⟨4, 0, -1, 1⟩]) := by kernel_rfl
theorem cd_b_22_4 (mp : Value) (a b : Int) (nf zf cf vf : Bool) : (stepS mp (CDb a b nf zf cf vf) (CDF 22 4)).1.R.getD 15 0 = if holdsS nf zf cf vf 4 then 14 else 4 := by
  cases nf <;> cases zf <;> cases cf <;> cases vf <;> kernel_rfl
theorem cd_a_22_5 (mp : Value) (a b : Int) : stepS mp (CD0 a b) (CDF 22 5) = (CD1 a b (4294967295 - b) true, CDF 22 5, [⟨4, 0, -1, 1⟩]) := by kernel_rfl
theorem cd_b_22_5 (mp : Value) (a b : Int) (nf zf cf vf : Bool) : (stepS mp (CDb a b nf zf cf vf) (CDF 22 5)).1.R.getD 15 0 = if holdsS nf zf cf vf 5 then 14 else 4 := by
  cases nf <;> cases zf <;> cases cf <;> cases vf <;> kernel_rfl
theorem cd_a_22_6 (mp : Value) (a b : Int) : stepS mp (CD0 a b) (CDF 22 6) = (CD1 a b (4294967295 - b) true, CDF 22 6, [⟨4, 0, -1, 1⟩]) := by kernel_rfl
theorem cd_b_22_6 (mp : Value) (a b : Int) (nf zf cf vf : Bool) : (stepS mp (CDb a b nf zf cf vf) (CDF 22 6)).1.R.getD 15 0 = if holdsS nf zf cf vf 6 then 14 else 4 := by
  cases nf <;> cases zf <;> cases cf <;> cases vf <;> kernel_rfl
theorem cd_a_22_7 (mp : Value) (a b : Int) : stepS mp (CD0 a b) (CDF 22 7) = (CD1 a b (4294967295 - b) true, CDF 22 7, [⟨4, 0, -1, 1⟩]) := by kernel_rfl
theorem cd_b_22_7 (mp : Value) (a b : Int) (nf zf cf vf : Bool) : (stepS mp (CDb a b nf zf cf vf) (CDF 22 7)).1.R.getD 15 0 = if holdsS nf zf cf vf 7 then 14 else 4 := by
  cases nf <;> cases zf <;> cases cf <;> cases vf <;> kernel_rfl
theorem cd_a_22_8 (mp : Value) (a b : Int) : stepS mp (CD0 a b) (CDF 22 8) = (CD1 a b (4294967295 - b) true, CDF 22 8, [⟨4, 0, -1, 1⟩]) := by kernel_rfl
theorem cd_b_22_8 (mp : Value) (a b : Int) (nf zf cf vf : Bool) : (stepS mp (CDb a b nf zf cf vf) (CDF 22 8)).1.R.getD 15 0 = if holdsS nf zf cf vf 8 then 14 else 4 := by
  cases nf <;> cases zf <;> cases cf <;> cases vf <;> kernel_rfl
theorem cd_a_22_9 (mp : Value) (a b : Int) : stepS mp (CD0 a b) (CDF 22 9) = (CD1 a b (4294967295 - b) true, CDF 22 9, [⟨4, 0, -1, 1⟩]) := by kernel_rfl
theorem cd_b_22_9 (mp : Value) (a b : Int) (nf zf cf vf : Bool) : (stepS mp (CDb a b nf zf cf vf) (CDF 22 9)).1.R.getD 15 0 = if holdsS nf zf cf vf 9 then 14 else 4 := by
  cases nf <;> cases zf <;> cases cf <;> cases vf <;> kernel_rfl
theorem cd_a_22_10 (mp : Value) (a b : Int) : stepS mp (CD0 a b) (CDF 22 10) = (CD1 a b (4294967295 - b) true, CDF 22 10, [⟨4, 0, -1, 1⟩]) := by kernel_rfl
theorem cd_b_22_10 (mp : Value) (a b : Int) (nf zf cf vf : Bool) : (stepS mp (CDb a b nf zf cf vf) (CDF 22 10)).1.R.getD 15 0 = if holdsS nf zf cf vf 10 then 14 else 4 := by
  cases nf <;> cases zf <;> cases cf <;> cases vf <;> kernel_rfl
theorem cd_a_22_11 (mp : Value) (a b : Int) : stepS mp (CD0 a b) (CDF 22 11) = (CD1 a b (4294967295 - b) true, CDF 22 11, [⟨4, 0, -1, 1⟩]) := by kernel_rfl
theorem cd_b_22_11 (mp : Value) (a b : Int) (nf zf cf vf : Bool) : (stepS mp (CDb a b nf zf cf vf) (CDF 22 11)).1.R.getD 15 0 = if holdsS nf zf cf vf 11 then 14 else 4 := by
  cases nf <;> cases zf <;> cases cf <;> cases vf <;> kernel_rfl
theorem cd_a_22_12 (mp : Value) (a b : Int) : stepS mp (CD0 a b) (CDF 22 12) = (CD1 a b (4294967295 - b) true, CDF 22 12, [⟨4, 0, -1, 1⟩]) := by kernel_rfl
theorem cd_b_22_12 (mp : Value) (a b : Int) (nf zf cf vf : Bool) : (stepS mp (CDb a b nf zf cf vf) (CDF 22 12)).1.R.getD 15 0 = if holdsS nf zf cf vf 12 then 14 else 4 := by
  cases nf <;> cases zf <;> cases cf <;> cases vf <;> kernel_rfl
theorem cd_a_22_13 (mp : Value) (a b : Int) : stepS mp (CD0 a b) (CDF 22 13) = (CD1 a b (4294967295 - b) true, CDF 22 13, [⟨4, 0, -1, 1⟩]) := by kernel_rfl
theorem cd_b_22_13 (mp : Value) (a b : Int) (nf zf cf vf : Bool) : (stepS mp (CDb a b nf zf cf vf) (CDF 22 13)).1.R.getD 15 0 = if holdsS nf zf cf vf 13 then 14 else 4 := by
  cases nf <;> cases zf <;> cases cf <;> cases vf <;> kernel_rfl
theorem cd_a_23_0 (mp : Value) (a b : Int) : stepS mp (CD0 a b) (CDF 23 0) = (CD1 a b b false, CDF 23 0, [⟨4, 0, -1, 1⟩]) := by kernel_rfl
theorem cd_b_23_0 (mp : Value) (a b : Int) (nf zf cf vf : Bool) : (stepS mp (CDb a b nf zf cf vf) (CDF 23 0)).1.R.getD 15 0 = if holdsS nf zf cf vf 0 then 14 else 4 := by
  cases nf <;> cases zf <;> cases cf <;> cases vf <;> kernel_rfl
theorem cd_a_23_1 (mp : Value) (a b : Int) : stepS mp (CD0 a b) (CDF 23 1) = (CD1 a b b false, CDF 23 1, [⟨4, 0, -1, 1⟩]) := by kernel_rfl
theorem cd_b_23_1 (mp : Value) (a b : Int) (nf zf cf vf : Bool) : (stepS mp (CDb a b nf zf cf vf) (CDF 23 1)).1.R.getD 15 0 = if holdsS nf zf cf vf 1 then 14 else 4 := by
  cases nf <;> cases zf <;> cases cf <;> cases vf <;> kernel_rfl
theorem cd_a_23_2 (mp : Value) (a b : Int) : stepS mp (CD0 a b) (CDF 23 2) = (CD1 a b b false, CDF 23 2, [⟨4, 0, -1, 1⟩]) := by kernel_rfl
theorem cd_b_23_2 (mp : Value) (a b : Int) (nf zf cf vf : Bool) : (stepS mp (CDb a b nf zf cf vf) (CDF 23 2)).1.R.getD 15 0 = if holdsS nf zf cf vf 2 then 14 else 4 := by
  cases nf <;> cases zf <;> cases cf <;> cases vf <;> kernel_rfl
theorem cd_a_23_3 (mp : Value) (a b : Int) : stepS mp (CD0 a b) (CDF 23 3) = (CD1 a b b false, CDF 23 3, [⟨4, 0, -1, 1⟩]) := by kernel_rfl
theorem cd_b_23_3 (mp : Value) (a b : Int) (nf zf cf vf : Bool) : (stepS mp (CDb a b nf zf cf vf) (CDF 23 3)).1.R.getD 15 0 = if holdsS nf zf cf vf 3 then 14 else 4 := by
  cases nf <;> cases zf <;> cases cf <;> cases vf <;> kernel_rfl
theorem cd_a_23_4 (mp : Value) (a b : Int) : stepS mp (CD0 a b) (CDF 23 4) = (CD1 a b b false, CDF 23 4, [⟨4, 0, -1, 1⟩]) := by kernel_rfl
theorem cd_b_23_4 (mp : Value) (a b : Int) (nf zf cf vf : Bool) : (stepS mp (CDb a b nf zf cf vf) (CDF 23 4)).1.R.getD 15 0 = if holdsS nf zf cf vf 4 then 14 else 4 := by
  cases nf <;> cases zf <;> cases cf <;> cases vf <;> kernel_rfl
theorem cd_a_23_5 (mp : Value) (a b : Int) : stepS mp (CD0 a b) (CDF 23 5) = (CD1 a b b false, CDF 23 5, [⟨4, 0, -1, 1⟩]) := by kernel_rfl
theorem cd_b_23_5 (mp : Value) (a b : Int) (nf zf cf vf : Bool) : (stepS mp (CDb a b nf zf cf vf) (CDF 23 5)).1.R.getD 15 0 = if holdsS nf zf cf vf 5 then 14 else 4 := by
  cases nf <;> cases zf <;> cases cf <;> cases vf <;> kernel_rfl
theorem cd_a_23_6 (mp : Value) (a b : Int) : stepS mp (CD0 a b) (CDF 23 6) = (CD1 a b b false, CDF 23 6, [⟨4, 0, -1, 1⟩]) := by kernel_rfl
theorem cd_b_23_6 (mp : Value) (a b : Int) (nf zf cf vf : Bool) : (stepS mp (CDb a b nf zf cf vf) (CDF 23 6)).1.R.getD 15 0 = if holdsS nf zf cf vf 6 then 14 else 4 := by
  cases nf <;> cases zf <;> cases cf <;> cases vf <;> kernel_rfl
theorem cd_a_23_7 (mp : Value) (a b : Int) : stepS mp (CD0 a b) (CDF 23 7) = (CD1 a b b false, CDF 23 7, [⟨4, 0, -1, 1⟩]) := by kernel_rfl
theorem cd_b_23_7 (mp : Value) (a b : Int) (nf zf cf vf : Bool) : (stepS mp (CDb a b nf zf cf vf) (CDF 23 7)).1.R.getD 15 0 = if holdsS nf zf cf vf 7 then 14 else 4 := by
  cases nf <;> cases zf <;> cases cf <;> cases vf <;> kernel_rfl
theorem cd_a_23_8 (mp : Value) (a b : Int) : stepS mp (CD0 a b) (CDF 23 8) = (CD1 a b b false, CDF 23 8, [⟨4, 0, -1, 1⟩]) := by kernel_rfl
theorem cd_b_23_8 (mp : Value) (a b : Int) (nf zf cf vf : Bool) : (stepS mp (CDb a b nf zf cf vf) (CDF 23 8)).1.R.getD 15 0 = if holdsS nf zf cf vf 8 then 14 else 4 := by
  cases nf <;> cases zf <;> cases cf <;> cases vf <;> kernel_rfl
theorem cd_a_23_9 (mp : Value) (a b : Int) : stepS mp (CD0 a b) (CDF 23 9) = (CD1 a b b false, CDF 23 9, [⟨4, 0, -1, 1⟩]) := by kernel_rfl
theorem cd_b_23_9 (mp : Value) (a b : Int) (nf zf cf vf : Bool) : (stepS mp (CDb a b nf zf cf vf) (CDF 23 9)).1.R.getD 15 0 = if holdsS nf zf cf vf 9 then 14 else 4 := by
  cases nf <;> cases zf <;> cases cf <;> cases vf <;> kernel_rfl
theorem cd_a_23_10 (mp : Value) (a b : Int) : stepS mp (CD0 a b) (CDF 23 10) = (CD1 a b b false, CDF 23 10, [⟨4, 0, -1, 1⟩]) := by kernel_rfl
theorem cd_b_23_10 (mp : Value) (a b : Int) (nf zf cf vf : Bool) : (stepS mp (CDb a b nf zf cf vf) (CDF 23 10)).1.R.getD 15 0 = if holdsS nf zf cf vf 10 then 14 else 4 := by
  cases nf <;> cases zf <;> cases cf <;> cases vf <;> kernel_rfl
theorem cd_a_23_11 (mp : Value) (a b : Int) : stepS mp (CD0 a b) (CDF 23 11) = (CD1 a b b false, CDF 23 11, [⟨4, 0, -1, 1⟩]) := by kernel_rfl
theorem cd_b_23_11 (mp : Value) (a b : Int) (nf zf cf vf : Bool) : (stepS mp (CDb a b nf zf cf vf) (CDF 23 11)).1.R.getD 15 0 = if holdsS nf zf cf vf 11 then 14 else 4 := by
  cases nf <;> cases zf <;> cases cf <;> cases vf <;> kernel_rfl
theorem cd_a_23_12 (mp : Value) (a b : Int) : stepS mp (CD0 a b) (CDF 23 12) = (CD1 a b b false, CDF 23 12, [⟨4, 0, -1, 1⟩]) := by kernel_rfl
theorem cd_b_23_12 (mp : Value) (a b : Int) (nf zf cf vf : Bool) : (stepS mp (CDb a b nf zf cf vf) (CDF 23 12)).1.R.getD 15 0 = if holdsS nf zf cf vf 12 then 14 else 4 := by
  cases nf <;> cases zf <;> cases cf <;> cases vf <;> kernel_rfl
theorem cd_a_23_13 (mp : Value) (a b : Int) : stepS mp (CD0 a b) (CDF 23 13) = (CD1 a b b false, CDF 23 13, [⟨4, 0, -1, 1⟩]) := by kernel_rfl
theorem cd_b_23_13 (mp : Value) (a b : Int) (nf zf cf vf : Bool) : (stepS mp (CDb a b nf zf cf vf) (CDF 23 13)).1.R.getD 15 0 = if holdsS nf zf cf vf 13 then 14 else 4 := by
  cases nf <;> cases zf <;> cases cf <;> cases vf <;> kernel_rfl
set_option maxHeartbeats 2000000 in
theorem cd_run_22 (mp : Value) (a b k : Int) (h0 : 0 ≤ k) (h1 : k ≤ 13) : (runUp mp (CD0 a b) (CDF 22 k) 2).1.R.getD 15 0 =
    if holdsS (sumX a (4294967295 - b) true / 2147483648 == 1) (sumX a (4294967295 - b) true == 0) ((a + (4294967295 - b) + cb true) / 4294967296 == 1) (vS a (4294967295 - b) (sumX a (4294967295 - b) true)) k then 14 else 4 := by
  have hk : k = 0 ∨ k = 1 ∨ k = 2 ∨ k = 3 ∨ k = 4 ∨ k = 5 ∨ k = 6 ∨ k = 7 ∨ k = 8 ∨ k = 9 ∨ k = 10 ∨ k = 11 ∨ k = 12 ∨ k = 13 := by omega
  rcases hk with rfl | rfl | rfl | rfl | rfl | rfl | rfl | rfl | rfl | rfl | rfl | rfl | rfl | rfl
  · rw [runUp_two, cd_a_22_0]; exact cd_b_22_0 mp a b _ _ _ _
  · rw [runUp_two, cd_a_22_1]; exact cd_b_22_1 mp a b _ _ _ _
  · rw [runUp_two, cd_a_22_2]; exact cd_b_22_2 mp a b _ _ _ _
  · rw [runUp_two, cd_a_22_3]; exact cd_b_22_3 mp a b _ _ _ _
  · rw [runUp_two, cd_a_22_4]; exact cd_b_22_4 mp a b _ _ _ _
  · rw [runUp_two, cd_a_22_5]; exact cd_b_22_5 mp a b _ _ _ _
  · rw [runUp_two, cd_a_22_6]; exact cd_b_22_6 mp a b _ _ _ _
  · rw [runUp_two, cd_a_22_7]; exact cd_b_22_7 mp a b _ _ _ _
  · rw [runUp_two, cd_a_22_8]; exact cd_b_22_8 mp a b _ _ _ _
  · rw [runUp_two, cd_a_22_9]; exact cd_b_22_9 mp a b _ _ _ _
  · rw [runUp_two, cd_a_22_10]; exact cd_b_22_10 mp a b _ _ _ _
  · rw [runUp_two, cd_a_22_11]; exact cd_b_22_11 mp a b _ _ _ _
  · rw [runUp_two, cd_a_22_12]; exact cd_b_22_12 mp a b _ _ _ _
  · rw [runUp_two, cd_a_22_13]; exact cd_b_22_13 mp a b _ _ _ _
set_option maxHeartbeats 2000000 in
theorem cd_run_23 (mp : Value) (a b k : Int) (h0 : 0 ≤ k) (h1 : k ≤ 13) : (runUp mp (CD0 a b) (CDF 23 k) 2).1.R.getD 15 0 =
    if holdsS (sumX a b false / 2147483648 == 1) (sumX a b false == 0) ((a + b + cb false) / 4294967296 == 1) (vS a b (sumX a b false)) k then 14 else 4 := by
  have hk : k = 0 ∨ k = 1 ∨ k = 2 ∨ k = 3 ∨ k = 4 ∨ k = 5 ∨ k = 6 ∨ k = 7 ∨ k = 8 ∨ k = 9 ∨ k = 10 ∨ k = 11 ∨ k = 12 ∨ k = 13 := by omega
  rcases hk with rfl | rfl | rfl | rfl | rfl | rfl | rfl | rfl | rfl | rfl | rfl | rfl | rfl | rfl
  · rw [runUp_two, cd_a_23_0]; exact cd_b_23_0 mp a b _ _ _ _
  · rw [runUp_two, cd_a_23_1]; exact cd_b_23_1 mp a b _ _ _ _
  · rw [runUp_two, cd_a_23_2]; exact cd_b_23_2 mp a b _ _ _ _
  · rw [runUp_two, cd_a_23_3]; exact cd_b_23_3 mp a b _ _ _ _
  · rw [runUp_two, cd_a_23_4]; exact cd_b_23_4 mp a b _ _ _ _
  · rw [runUp_two, cd_a_23_5]; exact cd_b_23_5 mp a b _ _ _ _
  · rw [runUp_two, cd_a_23_6]; exact cd_b_23_6 mp a b _ _ _ _
  · rw [runUp_two, cd_a_23_7]; exact cd_b_23_7 mp a b _ _ _ _
  · rw [runUp_two, cd_a_23_8]; exact cd_b_23_8 mp a b _ _ _ _
  · rw [runUp_two, cd_a_23_9]; exact cd_b_23_9 mp a b _ _ _ _
  · rw [runUp_two, cd_a_23_10]; exact cd_b_23_10 mp a b _ _ _ _
  · rw [runUp_two, cd_a_23_11]; exact cd_b_23_11 mp a b _ _ _ _
  · rw [runUp_two, cd_a_23_12]; exact cd_b_23_12 mp a b _ _ _ _
  · rw [runUp_two, cd_a_23_13]; exact cd_b_23_13 mp a b _ _ _ _
theorem CD_right (op k : Int) (ho : op = 22 ∨ op = 23) (h0 : 0 ≤ k) (h1 : k ≤ 13) : ∀ i ∈ CD op k, rightS i = true := by
  have hk : k = 0 ∨ k = 1 ∨ k = 2 ∨ k = 3 ∨ k = 4 ∨ k = 5 ∨ k = 6 ∨ k = 7 ∨ k = 8 ∨ k = 9 ∨ k = 10 ∨ k = 11 ∨ k = 12 ∨ k = 13 := by omega
  intro i hi
  simp [CD] at hi
  rcases ho with rfl | rfl <;> rcases hi with rfl | rfl <;> first | decide | (rcases hk with rfl | rfl | rfl | rfl | rfl | rfl | rfl | rfl | rfl | rfl | rfl | rfl | rfl | rfl <;> decide)
theorem CD_len (op k : Int) (ho : op = 22 ∨ op = 23) (h0 : 0 ≤ k) (h1 : k ≤ 13) : canLoad 0 (flatE (CD op k)).length := by
  have hk : k = 0 ∨ k = 1 ∨ k = 2 ∨ k = 3 ∨ k = 4 ∨ k = 5 ∨ k = 6 ∨ k = 7 ∨ k = 8 ∨ k = 9 ∨ k = 10 ∨ k = 11 ∨ k = 12 ∨ k = 13 := by omega
  unfold canLoad
  rcases ho with rfl | rfl <;> rcases hk with rfl | rfl | rfl | rfl | rfl | rfl | rfl | rfl | rfl | rfl | rfl | rfl | rfl | rfl <;> decide
end Go.Proofs.Ytpihjhfaeloapaa
