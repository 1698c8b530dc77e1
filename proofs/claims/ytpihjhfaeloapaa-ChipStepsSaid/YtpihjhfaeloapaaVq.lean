/- MERGED by mergev.py: XThO XThP XThQ XThR XTd1. -/
import Derived.Test.YtpihjhfaeloapaaVc
import Derived.BigGuardPart
import Derived.Test.YtpihjhfaeloapaaVb
import Derived.Test.YtpihjhfaeloapaaVd
import Derived.Deep.DeepCutAuto
import Derived.Deep.CutBlock
namespace Go.Proofs.Ytpihjhfaeloapaa
open Go.RowKit On Th
set_option maxHeartbeats 2000000 in
set_option maxRecDepth 100000 in
theorem forms_35 (w : World) : Calls Try.prog 79 #[.int .i64 35] w fun e w' => e = .returned (.tuple #[.agg #[.bool true, .bool false, .bool false, .int .i64 0, .int .i64 1020, .int .i64 4], .bool true]) ∧ Below w.heap.size w w' := by
  go_enter Try.func79, Try.ntmps79
  go_wp2_with fail
  refine bodyPost_ret (v := .tuple #[.agg #[.bool true, .bool false, .bool false, .int .i64 0, .int .i64 1020, .int .i64 4], .bool true]) (by rw [results_cell_tmp rfl]; go_simp) rfl ?_
  exact ⟨rfl, (Below.refl _ _).alloc (Nat.le_refl _) _⟩
set_option maxHeartbeats 2000000 in
set_option maxRecDepth 100000 in
theorem forms_36 (w : World) : Calls Try.prog 79 #[.int .i64 36] w fun e w' => e = .returned (.tuple #[.agg #[.bool true, .bool false, .bool false, .int .i64 0, .int .i64 1020, .int .i64 4], .bool true]) ∧ Below w.heap.size w w' := by
  go_enter Try.func79, Try.ntmps79
  go_wp2_with fail
  refine bodyPost_ret (v := .tuple #[.agg #[.bool true, .bool false, .bool false, .int .i64 0, .int .i64 1020, .int .i64 4], .bool true]) (by rw [results_cell_tmp rfl]; go_simp) rfl ?_
  exact ⟨rfl, (Below.refl _ _).alloc (Nat.le_refl _) _⟩
set_option maxHeartbeats 2000000 in
set_option maxRecDepth 100000 in
theorem forms_37 (w : World) : Calls Try.prog 79 #[.int .i64 37] w fun e w' => e = .returned (.tuple #[.agg #[.bool false, .bool false, .bool false, .int .i64 0, .int .i64 508, .int .i64 4], .bool true]) ∧ Below w.heap.size w w' := by
  go_enter Try.func79, Try.ntmps79
  go_wp2_with fail
  refine bodyPost_ret (v := .tuple #[.agg #[.bool false, .bool false, .bool false, .int .i64 0, .int .i64 508, .int .i64 4], .bool true]) (by rw [results_cell_tmp rfl]; go_simp) rfl ?_
  exact ⟨rfl, (Below.refl _ _).alloc (Nat.le_refl _) _⟩
set_option maxHeartbeats 2000000 in
set_option maxRecDepth 100000 in
theorem forms_38 (w : World) : Calls Try.prog 79 #[.int .i64 38] w fun e w' => e = .returned (.tuple #[.agg #[.bool false, .bool false, .bool false, .int .i64 0, .int .i64 508, .int .i64 4], .bool true]) ∧ Below w.heap.size w w' := by
  go_enter Try.func79, Try.ntmps79
  go_wp2_with fail
  refine bodyPost_ret (v := .tuple #[.agg #[.bool false, .bool false, .bool false, .int .i64 0, .int .i64 508, .int .i64 4], .bool true]) (by rw [results_cell_tmp rfl]; go_simp) rfl ?_
  exact ⟨rfl, (Below.refl _ _).alloc (Nat.le_refl _) _⟩
set_option maxHeartbeats 2000000 in
set_option maxRecDepth 100000 in
theorem forms_39 (w : World) : Calls Try.prog 79 #[.int .i64 39] w fun e w' => e = .returned (.tuple #[.agg #[.bool false, .bool false, .bool false, .int .i64 1, .int .i64 511, .int .i64 1], .bool true]) ∧ Below w.heap.size w w' := by
  go_enter Try.func79, Try.ntmps79
  go_wp2_with fail
  refine bodyPost_ret (v := .tuple #[.agg #[.bool false, .bool false, .bool false, .int .i64 1, .int .i64 511, .int .i64 1], .bool true]) (by rw [results_cell_tmp rfl]; go_simp) rfl ?_
  exact ⟨rfl, (Below.refl _ _).alloc (Nat.le_refl _) _⟩
set_option maxHeartbeats 2000000 in
set_option maxRecDepth 100000 in
theorem forms_40 (w : World) : Calls Try.prog 79 #[.int .i64 40] w fun e w' => e = .returned (.tuple #[.agg #[.bool false, .bool false, .bool false, .int .i64 1, .int .i64 511, .int .i64 1], .bool true]) ∧ Below w.heap.size w w' := by
  go_enter Try.func79, Try.ntmps79
  go_wp2_with fail
  refine bodyPost_ret (v := .tuple #[.agg #[.bool false, .bool false, .bool false, .int .i64 1, .int .i64 511, .int .i64 1], .bool true]) (by rw [results_cell_tmp rfl]; go_simp) rfl ?_
  exact ⟨rfl, (Below.refl _ _).alloc (Nat.le_refl _) _⟩
set_option maxHeartbeats 2000000 in
set_option maxRecDepth 100000 in
theorem forms_41 (w : World) : Calls Try.prog 79 #[.int .i64 41] w fun e w' => e = .returned (.tuple #[.agg #[.bool false, .bool false, .bool false, .int .i64 (-256), .int .i64 254, .int .i64 2], .bool true]) ∧ Below w.heap.size w w' := by
  go_enter Try.func79, Try.ntmps79
  go_wp2_with fail
  refine bodyPost_ret (v := .tuple #[.agg #[.bool false, .bool false, .bool false, .int .i64 (-256), .int .i64 254, .int .i64 2], .bool true]) (by rw [results_cell_tmp rfl]; go_simp) rfl ?_
  exact ⟨rfl, (Below.refl _ _).alloc (Nat.le_refl _) _⟩
set_option maxHeartbeats 2000000 in
set_option maxRecDepth 100000 in
theorem forms_42 (w : World) : Calls Try.prog 79 #[.int .i64 42] w fun e w' => e = .returned (.tuple #[.agg #[.bool false, .bool false, .bool false, .int .i64 (-2048), .int .i64 2046, .int .i64 2], .bool true]) ∧ Below w.heap.size w w' := by
  go_enter Try.func79, Try.ntmps79
  go_wp2_with fail
  refine bodyPost_ret (v := .tuple #[.agg #[.bool false, .bool false, .bool false, .int .i64 (-2048), .int .i64 2046, .int .i64 2], .bool true]) (by rw [results_cell_tmp rfl]; go_simp) rfl ?_
  exact ⟨rfl, (Below.refl _ _).alloc (Nat.le_refl _) _⟩
set_option maxHeartbeats 2000000 in
set_option maxRecDepth 100000 in
theorem forms_43 (w : World) : Calls Try.prog 79 #[.int .i64 43] w fun e w' => e = .returned (.tuple #[.agg #[.bool false, .bool false, .bool false, .int .i64 (-16777216), .int .i64 16777214, .int .i64 2], .bool true]) ∧ Below w.heap.size w w' := by
  go_enter Try.func79, Try.ntmps79
  go_wp2_with fail
  refine bodyPost_ret (v := .tuple #[.agg #[.bool false, .bool false, .bool false, .int .i64 (-16777216), .int .i64 16777214, .int .i64 2], .bool true]) (by rw [results_cell_tmp rfl]; go_simp) rfl ?_
  exact ⟨rfl, (Below.refl _ _).alloc (Nat.le_refl _) _⟩
set_option maxHeartbeats 2000000 in
set_option maxRecDepth 100000 in
theorem forms_44 (w : World) : Calls Try.prog 79 #[.int .i64 44] w fun e w' => e = .returned (.tuple #[.agg #[.bool false, .bool false, .bool false, .int .i64 0, .int .i64 255, .int .i64 1], .bool true]) ∧ Below w.heap.size w w' := by
  go_enter Try.func79, Try.ntmps79
  go_wp2_with fail
  refine bodyPost_ret (v := .tuple #[.agg #[.bool false, .bool false, .bool false, .int .i64 0, .int .i64 255, .int .i64 1], .bool true]) (by rw [results_cell_tmp rfl]; go_simp) rfl ?_
  exact ⟨rfl, (Below.refl _ _).alloc (Nat.le_refl _) _⟩
set_option maxHeartbeats 2000000 in
set_option maxRecDepth 100000 in
theorem forms_45 (w : World) : Calls Try.prog 79 #[.int .i64 45] w fun e w' => e = .returned (.tuple #[.agg #[.bool false, .bool false, .bool false, .int .i64 0, .int .i64 0, .int .i64 0], .bool true]) ∧ Below w.heap.size w w' := by
  go_enter Try.func79, Try.ntmps79
  go_wp2_with fail
  refine bodyPost_ret (v := .tuple #[.agg #[.bool false, .bool false, .bool false, .int .i64 0, .int .i64 0, .int .i64 0], .bool true]) (by rw [results_cell_tmp rfl]; go_simp) rfl ?_
  exact ⟨rfl, (Below.refl _ _).alloc (Nat.le_refl _) _⟩
set_option maxHeartbeats 2000000 in
set_option maxRecDepth 100000 in
theorem forms_none_lo (op : Int) (g1 : op ≠ 1) (g2 : op ≠ 2) (g3 : op ≠ 3) (g4 : op ≠ 4) (g5 : op ≠ 5) (g29 : op ≠ 29) (g30 : op ≠ 30) (g6 : op ≠ 6) (g7 : op ≠ 7) (g31 : op ≠ 31) (g32 : op ≠ 32) (g33 : op ≠ 33) (g34 : op ≠ 34) (g35 : op ≠ 35) (g36 : op ≠ 36) (g37 : op ≠ 37) (g38 : op ≠ 38) (g39 : op ≠ 39) (g40 : op ≠ 40) (g41 : op ≠ 41) (g42 : op ≠ 42) (g43 : op ≠ 43) (g44 : op ≠ 44) (g45 : op ≠ 45) (h1 : op < 8) (w : World) : Calls Try.prog 79 #[.int .i64 op] w fun e w' => e = .returned (.tuple #[.agg #[.bool false, .bool false, .bool false, .int .i64 0, .int .i64 0, .int .i64 0], .bool false]) ∧ Below w.heap.size w w' := by
  have n1 : (op == 1) = false := by simpa using g1
  have n2 : (op == 2) = false := by simpa using g2
  have n3 : (op == 3) = false := by simpa using g3
  have n4 : (op == 4) = false := by simpa using g4
  have n5 : (op == 5) = false := by simpa using g5
  have n29 : (op == 29) = false := by simpa using g29
  have n30 : (op == 30) = false := by simpa using g30
  have n6 : (op == 6) = false := by simpa using g6
  have n7 : (op == 7) = false := by simpa using g7
  have n31 : (op == 31) = false := by simpa using g31
  have n32 : (op == 32) = false := by simpa using g32
  have n33 : (op == 33) = false := by simpa using g33
  have n34 : (op == 34) = false := by simpa using g34
  have n35 : (op == 35) = false := by simpa using g35
  have n36 : (op == 36) = false := by simpa using g36
  have n37 : (op == 37) = false := by simpa using g37
  have n38 : (op == 38) = false := by simpa using g38
  have n39 : (op == 39) = false := by simpa using g39
  have n40 : (op == 40) = false := by simpa using g40
  have n41 : (op == 41) = false := by simpa using g41
  have n42 : (op == 42) = false := by simpa using g42
  have n43 : (op == 43) = false := by simpa using g43
  have n44 : (op == 44) = false := by simpa using g44
  have n45 : (op == 45) = false := by simpa using g45
  clear g1 g2 g3 g4 g5 g29 g30 g6 g7 g31 g32 g33 g34 g35 g36 g37 g38 g39 g40 g41 g42 g43 g44 g45
  have h5 : ¬ (8 ≤ op) := by omega
  have h6 : ¬ (12 ≤ op) := by omega
  go_enter Try.func79, Try.ntmps79
  go_wp2_with fail
  refine bodyPost_ret (v := .tuple #[.agg #[.bool false, .bool false, .bool false, .int .i64 0, .int .i64 0, .int .i64 0], .bool false]) (by rw [results_cell_tmp rfl]; go_simp) rfl ?_
  exact ⟨rfl, (Below.refl _ _).alloc (Nat.le_refl _) _⟩
set_option maxHeartbeats 2000000 in
set_option maxRecDepth 100000 in
theorem forms_none_hi (op : Int) (g1 : op ≠ 1) (g2 : op ≠ 2) (g3 : op ≠ 3) (g4 : op ≠ 4) (g5 : op ≠ 5) (g29 : op ≠ 29) (g30 : op ≠ 30) (g6 : op ≠ 6) (g7 : op ≠ 7) (g31 : op ≠ 31) (g32 : op ≠ 32) (g33 : op ≠ 33) (g34 : op ≠ 34) (g35 : op ≠ 35) (g36 : op ≠ 36) (g37 : op ≠ 37) (g38 : op ≠ 38) (g39 : op ≠ 39) (g40 : op ≠ 40) (g41 : op ≠ 41) (g42 : op ≠ 42) (g43 : op ≠ 43) (g44 : op ≠ 44) (g45 : op ≠ 45) (h1 : 27 < op) (w : World) : Calls Try.prog 79 #[.int .i64 op] w fun e w' => e = .returned (.tuple #[.agg #[.bool false, .bool false, .bool false, .int .i64 0, .int .i64 0, .int .i64 0], .bool false]) ∧ Below w.heap.size w w' := by
  have n1 : (op == 1) = false := by simpa using g1
  have n2 : (op == 2) = false := by simpa using g2
  have n3 : (op == 3) = false := by simpa using g3
  have n4 : (op == 4) = false := by simpa using g4
  have n5 : (op == 5) = false := by simpa using g5
  have n29 : (op == 29) = false := by simpa using g29
  have n30 : (op == 30) = false := by simpa using g30
  have n6 : (op == 6) = false := by simpa using g6
  have n7 : (op == 7) = false := by simpa using g7
  have n31 : (op == 31) = false := by simpa using g31
  have n32 : (op == 32) = false := by simpa using g32
  have n33 : (op == 33) = false := by simpa using g33
  have n34 : (op == 34) = false := by simpa using g34
  have n35 : (op == 35) = false := by simpa using g35
  have n36 : (op == 36) = false := by simpa using g36
  have n37 : (op == 37) = false := by simpa using g37
  have n38 : (op == 38) = false := by simpa using g38
  have n39 : (op == 39) = false := by simpa using g39
  have n40 : (op == 40) = false := by simpa using g40
  have n41 : (op == 41) = false := by simpa using g41
  have n42 : (op == 42) = false := by simpa using g42
  have n43 : (op == 43) = false := by simpa using g43
  have n44 : (op == 44) = false := by simpa using g44
  have n45 : (op == 45) = false := by simpa using g45
  clear g1 g2 g3 g4 g5 g29 g30 g6 g7 g31 g32 g33 g34 g35 g36 g37 g38 g39 g40 g41 g42 g43 g44 g45
  have h3 : 8 ≤ op := by omega
  have h4 : ¬ (op ≤ 11) := by omega
  have h5 : 12 ≤ op := by omega
  have h6 : ¬ (op ≤ 27) := by omega
  go_enter Try.func79, Try.ntmps79
  go_wp2_with fail
  refine bodyPost_ret (v := .tuple #[.agg #[.bool false, .bool false, .bool false, .int .i64 0, .int .i64 0, .int .i64 0], .bool false]) (by rw [results_cell_tmp rfl]; go_simp) rfl ?_
  exact ⟨rfl, (Below.refl _ _).alloc (Nat.le_refl _) _⟩
end Go.Proofs.Ytpihjhfaeloapaa
namespace Go.Proofs.Ytpihjhfaeloapaa
open Go.RowKit On Th
set_option maxHeartbeats 2000000 in
set_option maxRecDepth 100000 in
theorem forms_1 (w : World) : Calls Try.prog 79 #[.int .i64 1] w fun e w' => e = .returned (.tuple #[.agg #[.bool true, .bool false, .bool true, .int .i64 0, .int .i64 31, .int .i64 1], .bool true]) ∧ Below w.heap.size w w' := by
  go_enter Try.func79, Try.ntmps79
  go_wp2_with fail
  refine bodyPost_ret (v := .tuple #[.agg #[.bool true, .bool false, .bool true, .int .i64 0, .int .i64 31, .int .i64 1], .bool true]) (by rw [results_cell_tmp rfl]; go_simp) rfl ?_
  exact ⟨rfl, (Below.refl _ _).alloc (Nat.le_refl _) _⟩
set_option maxHeartbeats 2000000 in
set_option maxRecDepth 100000 in
theorem forms_2 (w : World) : Calls Try.prog 79 #[.int .i64 2] w fun e w' => e = .returned (.tuple #[.agg #[.bool true, .bool false, .bool true, .int .i64 1, .int .i64 32, .int .i64 1], .bool true]) ∧ Below w.heap.size w w' := by
  go_enter Try.func79, Try.ntmps79
  go_wp2_with fail
  refine bodyPost_ret (v := .tuple #[.agg #[.bool true, .bool false, .bool true, .int .i64 1, .int .i64 32, .int .i64 1], .bool true]) (by rw [results_cell_tmp rfl]; go_simp) rfl ?_
  exact ⟨rfl, (Below.refl _ _).alloc (Nat.le_refl _) _⟩
set_option maxHeartbeats 2000000 in
set_option maxRecDepth 100000 in
theorem forms_3 (w : World) : Calls Try.prog 79 #[.int .i64 3] w fun e w' => e = .returned (.tuple #[.agg #[.bool true, .bool false, .bool true, .int .i64 1, .int .i64 32, .int .i64 1], .bool true]) ∧ Below w.heap.size w w' := by
  go_enter Try.func79, Try.ntmps79
  go_wp2_with fail
  refine bodyPost_ret (v := .tuple #[.agg #[.bool true, .bool false, .bool true, .int .i64 1, .int .i64 32, .int .i64 1], .bool true]) (by rw [results_cell_tmp rfl]; go_simp) rfl ?_
  exact ⟨rfl, (Below.refl _ _).alloc (Nat.le_refl _) _⟩
set_option maxHeartbeats 2000000 in
set_option maxRecDepth 100000 in
theorem forms_4 (w : World) : Calls Try.prog 79 #[.int .i64 4] w fun e w' => e = .returned (.tuple #[.agg #[.bool true, .bool true, .bool true, .int .i64 0, .int .i64 0, .int .i64 1], .bool true]) ∧ Below w.heap.size w w' := by
  go_enter Try.func79, Try.ntmps79
  go_wp2_with fail
  refine bodyPost_ret (v := .tuple #[.agg #[.bool true, .bool true, .bool true, .int .i64 0, .int .i64 0, .int .i64 1], .bool true]) (by rw [results_cell_tmp rfl]; go_simp) rfl ?_
  exact ⟨rfl, (Below.refl _ _).alloc (Nat.le_refl _) _⟩
set_option maxHeartbeats 2000000 in
set_option maxRecDepth 100000 in
theorem forms_5 (w : World) : Calls Try.prog 79 #[.int .i64 5] w fun e w' => e = .returned (.tuple #[.agg #[.bool true, .bool true, .bool true, .int .i64 0, .int .i64 0, .int .i64 1], .bool true]) ∧ Below w.heap.size w w' := by
  go_enter Try.func79, Try.ntmps79
  go_wp2_with fail
  refine bodyPost_ret (v := .tuple #[.agg #[.bool true, .bool true, .bool true, .int .i64 0, .int .i64 0, .int .i64 1], .bool true]) (by rw [results_cell_tmp rfl]; go_simp) rfl ?_
  exact ⟨rfl, (Below.refl _ _).alloc (Nat.le_refl _) _⟩
set_option maxHeartbeats 2000000 in
set_option maxRecDepth 100000 in
theorem forms_29 (w : World) : Calls Try.prog 79 #[.int .i64 29] w fun e w' => e = .returned (.tuple #[.agg #[.bool true, .bool true, .bool true, .int .i64 0, .int .i64 0, .int .i64 1], .bool true]) ∧ Below w.heap.size w w' := by
  go_enter Try.func79, Try.ntmps79
  go_wp2_with fail
  refine bodyPost_ret (v := .tuple #[.agg #[.bool true, .bool true, .bool true, .int .i64 0, .int .i64 0, .int .i64 1], .bool true]) (by rw [results_cell_tmp rfl]; go_simp) rfl ?_
  exact ⟨rfl, (Below.refl _ _).alloc (Nat.le_refl _) _⟩
set_option maxHeartbeats 2000000 in
set_option maxRecDepth 100000 in
theorem forms_30 (w : World) : Calls Try.prog 79 #[.int .i64 30] w fun e w' => e = .returned (.tuple #[.agg #[.bool true, .bool true, .bool true, .int .i64 0, .int .i64 0, .int .i64 1], .bool true]) ∧ Below w.heap.size w w' := by
  go_enter Try.func79, Try.ntmps79
  go_wp2_with fail
  refine bodyPost_ret (v := .tuple #[.agg #[.bool true, .bool true, .bool true, .int .i64 0, .int .i64 0, .int .i64 1], .bool true]) (by rw [results_cell_tmp rfl]; go_simp) rfl ?_
  exact ⟨rfl, (Below.refl _ _).alloc (Nat.le_refl _) _⟩
set_option maxHeartbeats 2000000 in
set_option maxRecDepth 100000 in
theorem forms_6 (w : World) : Calls Try.prog 79 #[.int .i64 6] w fun e w' => e = .returned (.tuple #[.agg #[.bool true, .bool true, .bool false, .int .i64 0, .int .i64 7, .int .i64 1], .bool true]) ∧ Below w.heap.size w w' := by
  go_enter Try.func79, Try.ntmps79
  go_wp2_with fail
  refine bodyPost_ret (v := .tuple #[.agg #[.bool true, .bool true, .bool false, .int .i64 0, .int .i64 7, .int .i64 1], .bool true]) (by rw [results_cell_tmp rfl]; go_simp) rfl ?_
  exact ⟨rfl, (Below.refl _ _).alloc (Nat.le_refl _) _⟩
set_option maxHeartbeats 2000000 in
set_option maxRecDepth 100000 in
theorem forms_7 (w : World) : Calls Try.prog 79 #[.int .i64 7] w fun e w' => e = .returned (.tuple #[.agg #[.bool true, .bool true, .bool false, .int .i64 0, .int .i64 7, .int .i64 1], .bool true]) ∧ Below w.heap.size w w' := by
  go_enter Try.func79, Try.ntmps79
  go_wp2_with fail
  refine bodyPost_ret (v := .tuple #[.agg #[.bool true, .bool true, .bool false, .int .i64 0, .int .i64 7, .int .i64 1], .bool true]) (by rw [results_cell_tmp rfl]; go_simp) rfl ?_
  exact ⟨rfl, (Below.refl _ _).alloc (Nat.le_refl _) _⟩
set_option maxHeartbeats 2000000 in
set_option maxRecDepth 100000 in
theorem forms_31 (w : World) : Calls Try.prog 79 #[.int .i64 31] w fun e w' => e = .returned (.tuple #[.agg #[.bool true, .bool true, .bool false, .int .i64 0, .int .i64 124, .int .i64 4], .bool true]) ∧ Below w.heap.size w w' := by
  go_enter Try.func79, Try.ntmps79
  go_wp2_with fail
  refine bodyPost_ret (v := .tuple #[.agg #[.bool true, .bool true, .bool false, .int .i64 0, .int .i64 124, .int .i64 4], .bool true]) (by rw [results_cell_tmp rfl]; go_simp) rfl ?_
  exact ⟨rfl, (Below.refl _ _).alloc (Nat.le_refl _) _⟩
set_option maxHeartbeats 2000000 in
set_option maxRecDepth 100000 in
theorem forms_32 (w : World) : Calls Try.prog 79 #[.int .i64 32] w fun e w' => e = .returned (.tuple #[.agg #[.bool true, .bool true, .bool false, .int .i64 0, .int .i64 124, .int .i64 4], .bool true]) ∧ Below w.heap.size w w' := by
  go_enter Try.func79, Try.ntmps79
  go_wp2_with fail
  refine bodyPost_ret (v := .tuple #[.agg #[.bool true, .bool true, .bool false, .int .i64 0, .int .i64 124, .int .i64 4], .bool true]) (by rw [results_cell_tmp rfl]; go_simp) rfl ?_
  exact ⟨rfl, (Below.refl _ _).alloc (Nat.le_refl _) _⟩
set_option maxHeartbeats 2000000 in
set_option maxRecDepth 100000 in
theorem forms_33 (w : World) : Calls Try.prog 79 #[.int .i64 33] w fun e w' => e = .returned (.tuple #[.agg #[.bool true, .bool true, .bool false, .int .i64 0, .int .i64 31, .int .i64 1], .bool true]) ∧ Below w.heap.size w w' := by
  go_enter Try.func79, Try.ntmps79
  go_wp2_with fail
  refine bodyPost_ret (v := .tuple #[.agg #[.bool true, .bool true, .bool false, .int .i64 0, .int .i64 31, .int .i64 1], .bool true]) (by rw [results_cell_tmp rfl]; go_simp) rfl ?_
  exact ⟨rfl, (Below.refl _ _).alloc (Nat.le_refl _) _⟩
set_option maxHeartbeats 2000000 in
set_option maxRecDepth 100000 in
theorem forms_34 (w : World) : Calls Try.prog 79 #[.int .i64 34] w fun e w' => e = .returned (.tuple #[.agg #[.bool true, .bool true, .bool false, .int .i64 0, .int .i64 31, .int .i64 1], .bool true]) ∧ Below w.heap.size w w' := by
  go_enter Try.func79, Try.ntmps79
  go_wp2_with fail
  refine bodyPost_ret (v := .tuple #[.agg #[.bool true, .bool true, .bool false, .int .i64 0, .int .i64 31, .int .i64 1], .bool true]) (by rw [results_cell_tmp rfl]; go_simp) rfl ?_
  exact ⟨rfl, (Below.refl _ _).alloc (Nat.le_refl _) _⟩
set_option maxHeartbeats 2000000 in
set_option maxRecDepth 100000 in
theorem forms_mov (op : Int) (h1 : 8 ≤ op) (h2 : op ≤ 11) (w : World) : Calls Try.prog 79 #[.int .i64 op] w fun e w' => e = .returned (.tuple #[.agg #[.bool true, .bool false, .bool false, .int .i64 0, .int .i64 255, .int .i64 1], .bool true]) ∧ Below w.heap.size w w' := by
  have n1 : (op == 1) = false := by simp; omega
  have n2 : (op == 2) = false := by simp; omega
  have n3 : (op == 3) = false := by simp; omega
  have n4 : (op == 4) = false := by simp; omega
  have n5 : (op == 5) = false := by simp; omega
  have n29 : (op == 29) = false := by simp; omega
  have n30 : (op == 30) = false := by simp; omega
  have n6 : (op == 6) = false := by simp; omega
  have n7 : (op == 7) = false := by simp; omega
  go_enter Try.func79, Try.ntmps79
  go_wp2_with fail
  refine bodyPost_ret (v := .tuple #[.agg #[.bool true, .bool false, .bool false, .int .i64 0, .int .i64 255, .int .i64 1], .bool true]) (by rw [results_cell_tmp rfl]; go_simp) rfl ?_
  exact ⟨rfl, (Below.refl _ _).alloc (Nat.le_refl _) _⟩
set_option maxHeartbeats 2000000 in
set_option maxRecDepth 100000 in
theorem forms_and (op : Int) (h1 : 12 ≤ op) (h2 : op ≤ 27) (w : World) : Calls Try.prog 79 #[.int .i64 op] w fun e w' => e = .returned (.tuple #[.agg #[.bool true, .bool false, .bool true, .int .i64 0, .int .i64 0, .int .i64 1], .bool true]) ∧ Below w.heap.size w w' := by
  have n1 : (op == 1) = false := by simp; omega
  have n2 : (op == 2) = false := by simp; omega
  have n3 : (op == 3) = false := by simp; omega
  have n4 : (op == 4) = false := by simp; omega
  have n5 : (op == 5) = false := by simp; omega
  have n29 : (op == 29) = false := by simp; omega
  have n30 : (op == 30) = false := by simp; omega
  have n6 : (op == 6) = false := by simp; omega
  have n7 : (op == 7) = false := by simp; omega
  have h3 : 8 ≤ op := by omega
  have h4 : ¬ (op ≤ 11) := by omega
  go_enter Try.func79, Try.ntmps79
  go_wp2_with fail
  refine bodyPost_ret (v := .tuple #[.agg #[.bool true, .bool false, .bool true, .int .i64 0, .int .i64 0, .int .i64 1], .bool true]) (by rw [results_cell_tmp rfl]; go_simp) rfl ?_
  exact ⟨rfl, (Below.refl _ _).alloc (Nat.le_refl _) _⟩
end Go.Proofs.Ytpihjhfaeloapaa
namespace Go.Proofs.Ytpihjhfaeloapaa
open Go.RowKit On Th
def FormAt (op : Int) (w : World) (e : Ending) (w' : World) : Prop :=
  (match formOf op with
   | none => e = .returned (.tuple #[.agg #[.bool false, .bool false, .bool false, .int .i64 0, .int .i64 0, .int .i64 0], .bool false])
   | some f => e = .returned (.tuple #[.agg #[.bool f.d, .bool f.n, .bool f.m, .int .i64 f.least, .int .i64 f.most, .int .i64 f.step], .bool true])) ∧ Below w.heap.size w w'
theorem formAt_some {op : Int} {f : Fm} (h : formOf op = some f) {w : World} {e : Ending} {w' : World} (r : e = .returned (.tuple #[.agg #[.bool f.d, .bool f.n, .bool f.m, .int .i64 f.least, .int .i64 f.most, .int .i64 f.step], .bool true]) ∧ Below w.heap.size w w') : FormAt op w e w' := by unfold FormAt; rw [h]; exact r
theorem formAt_none {op : Int} (h : formOf op = none) {w : World} {e : Ending} {w' : World} (r : e = .returned (.tuple #[.agg #[.bool false, .bool false, .bool false, .int .i64 0, .int .i64 0, .int .i64 0], .bool false]) ∧ Below w.heap.size w w') : FormAt op w e w' := by unfold FormAt; rw [h]; exact r
theorem forms_c (op : Int) (w : World) : Calls Try.prog 79 #[.int .i64 op] w (FormAt op w) := by
  by_cases e1 : op = 1
  · subst e1; exact (forms_1 w).mono fun e w' h => formAt_some (f := ⟨true, false, true, 0, 31, 1⟩) rfl h
  by_cases e2 : op = 2
  · subst e2; exact (forms_2 w).mono fun e w' h => formAt_some (f := ⟨true, false, true, 1, 32, 1⟩) rfl h
  by_cases e3 : op = 3
  · subst e3; exact (forms_3 w).mono fun e w' h => formAt_some (f := ⟨true, false, true, 1, 32, 1⟩) rfl h
  by_cases e4 : op = 4
  · subst e4; exact (forms_4 w).mono fun e w' h => formAt_some (f := ⟨true, true, true, 0, 0, 1⟩) rfl h
  by_cases e5 : op = 5
  · subst e5; exact (forms_5 w).mono fun e w' h => formAt_some (f := ⟨true, true, true, 0, 0, 1⟩) rfl h
  by_cases e29 : op = 29
  · subst e29; exact (forms_29 w).mono fun e w' h => formAt_some (f := ⟨true, true, true, 0, 0, 1⟩) rfl h
  by_cases e30 : op = 30
  · subst e30; exact (forms_30 w).mono fun e w' h => formAt_some (f := ⟨true, true, true, 0, 0, 1⟩) rfl h
  by_cases e6 : op = 6
  · subst e6; exact (forms_6 w).mono fun e w' h => formAt_some (f := ⟨true, true, false, 0, 7, 1⟩) rfl h
  by_cases e7 : op = 7
  · subst e7; exact (forms_7 w).mono fun e w' h => formAt_some (f := ⟨true, true, false, 0, 7, 1⟩) rfl h
  by_cases e31 : op = 31
  · subst e31; exact (forms_31 w).mono fun e w' h => formAt_some (f := ⟨true, true, false, 0, 124, 4⟩) rfl h
  by_cases e32 : op = 32
  · subst e32; exact (forms_32 w).mono fun e w' h => formAt_some (f := ⟨true, true, false, 0, 124, 4⟩) rfl h
  by_cases e33 : op = 33
  · subst e33; exact (forms_33 w).mono fun e w' h => formAt_some (f := ⟨true, true, false, 0, 31, 1⟩) rfl h
  by_cases e34 : op = 34
  · subst e34; exact (forms_34 w).mono fun e w' h => formAt_some (f := ⟨true, true, false, 0, 31, 1⟩) rfl h
  by_cases e35 : op = 35
  · subst e35; exact (forms_35 w).mono fun e w' h => formAt_some (f := ⟨true, false, false, 0, 1020, 4⟩) rfl h
  by_cases e36 : op = 36
  · subst e36; exact (forms_36 w).mono fun e w' h => formAt_some (f := ⟨true, false, false, 0, 1020, 4⟩) rfl h
  by_cases e37 : op = 37
  · subst e37; exact (forms_37 w).mono fun e w' h => formAt_some (f := ⟨false, false, false, 0, 508, 4⟩) rfl h
  by_cases e38 : op = 38
  · subst e38; exact (forms_38 w).mono fun e w' h => formAt_some (f := ⟨false, false, false, 0, 508, 4⟩) rfl h
  by_cases e39 : op = 39
  · subst e39; exact (forms_39 w).mono fun e w' h => formAt_some (f := ⟨false, false, false, 1, 511, 1⟩) rfl h
  by_cases e40 : op = 40
  · subst e40; exact (forms_40 w).mono fun e w' h => formAt_some (f := ⟨false, false, false, 1, 511, 1⟩) rfl h
  by_cases e41 : op = 41
  · subst e41; exact (forms_41 w).mono fun e w' h => formAt_some (f := ⟨false, false, false, (-256), 254, 2⟩) rfl h
  by_cases e42 : op = 42
  · subst e42; exact (forms_42 w).mono fun e w' h => formAt_some (f := ⟨false, false, false, (-2048), 2046, 2⟩) rfl h
  by_cases e43 : op = 43
  · subst e43; exact (forms_43 w).mono fun e w' h => formAt_some (f := ⟨false, false, false, (-16777216), 16777214, 2⟩) rfl h
  by_cases e44 : op = 44
  · subst e44; exact (forms_44 w).mono fun e w' h => formAt_some (f := ⟨false, false, false, 0, 255, 1⟩) rfl h
  by_cases e45 : op = 45
  · subst e45; exact (forms_45 w).mono fun e w' h => formAt_some (f := ⟨false, false, false, 0, 0, 0⟩) rfl h
  by_cases eA : 12 ≤ op ∧ op ≤ 27
  · exact (forms_and op eA.1 eA.2 w).mono fun e w' h => formAt_some (f := ⟨true, false, true, 0, 0, 1⟩) (by unfold formOf; rw [if_pos eA]) h
  by_cases eM : 8 ≤ op ∧ op ≤ 11
  · exact (forms_mov op eM.1 eM.2 w).mono fun e w' h => formAt_some (f := ⟨true, false, false, 0, 255, 1⟩) (by unfold formOf; rw [if_neg eA, if_pos eM]) h
  have hn : formOf op = none := by simp [formOf, eA, eM, e1, e2, e3, e4, e5, e29, e30, e6, e7, e31, e32, e33, e34, e35, e36, e37, e38, e39, e40, e41, e42, e43, e44, e45]
  rcases (show op < 8 ∨ 27 < op by omega) with h | h
  · exact (forms_none_lo op e1 e2 e3 e4 e5 e29 e30 e6 e7 e31 e32 e33 e34 e35 e36 e37 e38 e39 e40 e41 e42 e43 e44 e45 h w).mono fun e w' h => formAt_none hn h
  · exact (forms_none_hi op e1 e2 e3 e4 e5 e29 e30 e6 e7 e31 e32 e33 e34 e35 e36 e37 e38 e39 e40 e41 e42 e43 e44 e45 h w).mono fun e w' h => formAt_none hn h
end Go.Proofs.Ytpihjhfaeloapaa
namespace Go.Proofs.Ytpihjhfaeloapaa
open Go.RowKit On Th
set_option maxHeartbeats 1000000 in
theorem in_c (n a b s : Int) (hs : s ≠ 0) (w : World) : Calls Try.prog 78 #[.int .i64 n, .int .i64 a, .int .i64 b, .int .i64 s] w fun e w' => e = .returned (.bool (inS n a b s)) ∧ w = w' := by
  go_enter Try.func78, Try.ntmps78
  go_wp2_with fail
  all_goals
    go_ret
    refine ⟨retB ?_, rfl⟩
    rw [Bool.eq_iff_iff]
    unfold inS
    first | (simp; done) | (simp; omega)
set_option maxHeartbeats 1000000 in
theorem low_c (r : Int) (w : World) : Calls Try.prog 89 #[.int .i64 r] w fun e w' => e = .returned (.bool (decide (0 ≤ r) && decide (r ≤ 7))) ∧ w = w' := by
  go_enter Try.func89, Try.ntmps89
  go_wp2_with fail
  all_goals
    go_ret
    refine ⟨retB ?_, rfl⟩
    rw [Bool.eq_iff_iff]
    first | (simp; done) | (simp; omega)
set_option maxHeartbeats 1000000 in
theorem use_c (u : Bool) (r : Int) (w : World) : Calls Try.prog 80 #[.bool u, .int .i64 r] w fun e w' => e = .returned (.bool (useS u r)) ∧ w = w' := by
  go_enter Try.func80, Try.ntmps80
  cases u
  all_goals
    go_wp2_with (first | (go_at_call 89; refine (low_c _ _).mono ?_; rintro e w' ⟨rfl, rfl⟩))
  all_goals
    go_ret
    refine ⟨retB ?_, rfl⟩
    rw [Bool.eq_iff_iff]
    unfold useS
    first | (simp; done) | (simp; omega)
set_option maxHeartbeats 2000000 in
theorem ref_cond (op d n m imm cond : Int) (w : World) (h41 : op ≠ 41) (hc : cond ≠ 0) : Calls Try.prog 68 #[.agg #[.int .i64 op, .int .i64 d, .int .i64 n, .int .i64 m, .int .i64 imm, .int .i64 cond]] w fun e w' => e = .returned (.bool false) ∧ Below w.heap.size w w' := by
  have b1 : (op == 41) = false := by simpa using h41
  have b2 : (cond == 0) = false := by simpa using hc
  have b3 : (op != 41) = true := by simp [h41]
  have b4 : (cond != 0) = true := by simp [hc]
  clear h41 hc
  have KI : Blk (w.alloc (.cells #[.int .i64 op, .int .i64 d, .int .i64 n, .int .i64 m, .int .i64 imm, .int .i64 cond] 36)) w.heap.size 36 #[.int .i64 op, .int .i64 d, .int .i64 n, .int .i64 m, .int .i64 imm, .int .i64 cond] := Blk.new _ _ _
  have HB0 : Hid (Below w.heap.size w (w.alloc (.cells #[.int .i64 op, .int .i64 d, .int .i64 n, .int .i64 m, .int .i64 imm, .int .i64 cond] 36))) := (Below.refl _ _).alloc (Nat.le_refl _) _
  go_enter Try.func68, Try.ntmps68
  go_wp2_with fail
  go_ret
  exact ⟨rfl, HB0.out⟩
set_option maxHeartbeats 2000000 in
theorem ref_41no (d n m imm cond : Int) (w : World) (hc : inS cond 0 13 1 = false) : Calls Try.prog 68 #[.agg #[.int .i64 41, .int .i64 d, .int .i64 n, .int .i64 m, .int .i64 imm, .int .i64 cond]] w fun e w' => e = .returned (.bool false) ∧ Below w.heap.size w w' := by
  have p1 : Hid (∀ w, Calls Try.prog 78 #[.int .i64 cond, .int .i64 0, .int .i64 13, .int .i64 1] w fun e w' => e = .returned (.bool false) ∧ w = w') := fun w => (in_c _ _ _ _ (by decide) w).mono fun e w' h => ⟨h.1.trans (by rw [hc]), h.2⟩
  have KI : Blk (w.alloc (.cells #[.int .i64 41, .int .i64 d, .int .i64 n, .int .i64 m, .int .i64 imm, .int .i64 cond] 36)) w.heap.size 36 #[.int .i64 41, .int .i64 d, .int .i64 n, .int .i64 m, .int .i64 imm, .int .i64 cond] := Blk.new _ _ _
  have HB0 : Hid (Below w.heap.size w (w.alloc (.cells #[.int .i64 41, .int .i64 d, .int .i64 n, .int .i64 m, .int .i64 imm, .int .i64 cond] 36))) := (Below.refl _ _).alloc (Nat.le_refl _) _
  go_enter Try.func68, Try.ntmps68
  go_wp2_with (first | (go_at_call 78; refine (p1.out _).mono ?_; rintro e w' ⟨rfl, rfl⟩))
  go_ret
  exact ⟨rfl, HB0.out⟩
set_option maxHeartbeats 4000000 in
theorem ref_41 (d n m imm cond : Int) (f : Fm) (w : World) (hc : inS cond 0 13 1 = true) (hf : ∀ w, Calls Try.prog 79 #[.int .i64 41] w fun e w' => e = .returned (.tuple #[.agg #[.bool f.d, .bool f.n, .bool f.m, .int .i64 f.least, .int .i64 f.most, .int .i64 f.step], .bool true]) ∧ Below w.heap.size w w') :
    Calls Try.prog 68 #[.agg #[.int .i64 41, .int .i64 d, .int .i64 n, .int .i64 m, .int .i64 imm, .int .i64 cond]] w fun e w' => e = .returned (.bool (rightF (some f) ⟨41, d, n, m, imm, cond⟩)) ∧ Below w.heap.size w w' := by
  have HF := Lib.hid hf
  clear hf
  have p1 : Hid (∀ w, Calls Try.prog 78 #[.int .i64 cond, .int .i64 0, .int .i64 13, .int .i64 1] w fun e w' => e = .returned (.bool true) ∧ w = w') := fun w => (in_c _ _ _ _ (by decide) w).mono fun e w' h => ⟨h.1.trans (by rw [hc]), h.2⟩
  have KI : Blk (w.alloc (.cells #[.int .i64 41, .int .i64 d, .int .i64 n, .int .i64 m, .int .i64 imm, .int .i64 cond] 36)) w.heap.size 36 #[.int .i64 41, .int .i64 d, .int .i64 n, .int .i64 m, .int .i64 imm, .int .i64 cond] := Blk.new _ _ _
  have HB0 : Hid (Below w.heap.size w (w.alloc (.cells #[.int .i64 41, .int .i64 d, .int .i64 n, .int .i64 m, .int .i64 imm, .int .i64 cond] 36))) := (Below.refl _ _).alloc (Nat.le_refl _) _
  obtain ⟨fd, fn, fm, fl, ft, fs⟩ := f
  have HV : Hid (∃ v, rightF (some ⟨fd, fn, fm, fl, ft, fs⟩) ⟨41, d, n, m, imm, cond⟩ = v) := ⟨_, rfl⟩
  obtain ⟨v, hv⟩ := HV.out
  rw [hv]
  have hv' : (useS fd d && useS fn n && useS fm m && (if fs = 0 then imm == 0 else inS imm fl ft fs)) = v := hv
  clear hv
  have hv := hv'
  clear hv'
  dsimp only at HF
  clear HV
  obtain ⟨ud, hud⟩ : ∃ u, useS fd d = u := ⟨_, rfl⟩
  obtain ⟨un, hun⟩ : ∃ u, useS fn n = u := ⟨_, rfl⟩
  obtain ⟨um, hum⟩ : ∃ u, useS fm m = u := ⟨_, rfl⟩
  rw [hud, hun, hum] at hv
  have pd : Hid (∀ w, Calls Try.prog 80 #[.bool fd, .int .i64 d] w fun e w' => e = .returned (.bool ud) ∧ w = w') := fun w => (use_c fd d w).mono fun e w' h => ⟨h.1.trans (by rw [hud]), h.2⟩
  have pn : Hid (∀ w, Calls Try.prog 80 #[.bool fn, .int .i64 n] w fun e w' => e = .returned (.bool un) ∧ w = w') := fun w => (use_c fn n w).mono fun e w' h => ⟨h.1.trans (by rw [hun]), h.2⟩
  have pm : Hid (∀ w, Calls Try.prog 80 #[.bool fm, .int .i64 m] w fun e w' => e = .returned (.bool um) ∧ w = w') := fun w => (use_c fm m w).mono fun e w' h => ⟨h.1.trans (by rw [hum]), h.2⟩
  clear hud hun hum
  by_cases hs0 : fs = 0
  · rw [if_pos hs0] at hv
    subst hs0
    cases ud <;> cases un <;> cases um
    all_goals
      simp only [Bool.true_and, Bool.false_and, Bool.and_true, Bool.and_false] at hv
      have HV := Lib.hid hv
      clear hv
      have KI2 := Lib.hid KI
      go_enter Try.func68, Try.ntmps68
      go_wp2_with (first | (go_at_call 78; refine (p1.out _).mono ?_; rintro e w' ⟨rfl, rfl⟩))
      refine (HF.out _).mono ?_
      rintro e w2 ⟨rfl, hb⟩
      have ki := (KI.only (S := fun _ => False) (Only.of_below hb) id).alloc (.cells #[.bool fd, .bool fn, .bool fm, .int .i64 fl, .int .i64 ft, .int .i64 0] 134)
      have kf := Blk.new w2 134 #[.bool fd, .bool fn, .bool fm, .int .i64 fl, .int .i64 ft, .int .i64 0]
      have c1 := ki.cell 1
      have c2 := ki.cell 2
      have c3 := ki.cell 3
      have c4 := ki.cell 4
      have g0 := kf.cell 0
      have g1 := kf.cell 1
      have g2 := kf.cell 2
      have g3 := kf.cell 3
      have g4 := kf.cell 4
      have g5 := kf.cell 5
      simp at c1 c2 c3 c4 g0 g1 g2 g3 g4 g5
      have HB2 := Lib.hid ((HB0.out.trans (hb.mono HB0.out.size)).alloc (by have := HB0.out.size; have := hb.size; omega) (.cells #[.bool fd, .bool fn, .bool fm, .int .i64 fl, .int .i64 ft, .int .i64 0] 134))
      clear hb ki kf KI
      go_wp2_with (first | (go_at_call 80; (first | (with_reducible refine (pd.out _).mono ?_) | (with_reducible refine (pn.out _).mono ?_) | (with_reducible refine (pm.out _).mono ?_)); rintro e w' ⟨rfl, rfl⟩) | (go_at_call 78; refine (in_c _ _ _ _ (by decide) _).mono ?_; rintro e w' ⟨rfl, rfl⟩))
      go_ret
      exact ⟨retB (by first | exact HV.out | (have := HV.out; simp_all)), HB2.out⟩
  · rw [if_neg hs0] at hv
    have hsb : (fs == 0) = false := by simpa using hs0
    have HS0 := Lib.hid hs0
    clear hs0
    cases ud <;> cases un <;> cases um
    all_goals
      simp only [Bool.true_and, Bool.false_and, Bool.and_true, Bool.and_false] at hv
      have HV := Lib.hid hv
      clear hv
      have KI2 := Lib.hid KI
      go_enter Try.func68, Try.ntmps68
      go_wp2_with (first | (go_at_call 78; refine (p1.out _).mono ?_; rintro e w' ⟨rfl, rfl⟩))
      refine (HF.out _).mono ?_
      rintro e w2 ⟨rfl, hb⟩
      have ki := (KI.only (S := fun _ => False) (Only.of_below hb) id).alloc (.cells #[.bool fd, .bool fn, .bool fm, .int .i64 fl, .int .i64 ft, .int .i64 fs] 134)
      have kf := Blk.new w2 134 #[.bool fd, .bool fn, .bool fm, .int .i64 fl, .int .i64 ft, .int .i64 fs]
      have c1 := ki.cell 1
      have c2 := ki.cell 2
      have c3 := ki.cell 3
      have c4 := ki.cell 4
      have g0 := kf.cell 0
      have g1 := kf.cell 1
      have g2 := kf.cell 2
      have g3 := kf.cell 3
      have g4 := kf.cell 4
      have g5 := kf.cell 5
      simp at c1 c2 c3 c4 g0 g1 g2 g3 g4 g5
      have HB2 := Lib.hid ((HB0.out.trans (hb.mono HB0.out.size)).alloc (by have := HB0.out.size; have := hb.size; omega) (.cells #[.bool fd, .bool fn, .bool fm, .int .i64 fl, .int .i64 ft, .int .i64 fs] 134))
      clear hb ki kf KI
      go_wp2_with (first | (go_at_call 80; (first | (with_reducible refine (pd.out _).mono ?_) | (with_reducible refine (pn.out _).mono ?_) | (with_reducible refine (pm.out _).mono ?_)); rintro e w' ⟨rfl, rfl⟩) | (go_at_call 78; refine (in_c _ _ _ _ HS0.out _).mono ?_; rintro e w' ⟨rfl, rfl⟩))
      go_ret
      exact ⟨retB (by first | exact HV.out | (have := HV.out; simp_all)), HB2.out⟩
set_option maxHeartbeats 4000000 in
theorem ref_row (op d n m imm cond : Int) (f : Fm) (w : World) (h41 : op ≠ 41) (h28 : op ≠ 28) (hc : cond = 0) (hf : ∀ w, Calls Try.prog 79 #[.int .i64 op] w fun e w' => e = .returned (.tuple #[.agg #[.bool f.d, .bool f.n, .bool f.m, .int .i64 f.least, .int .i64 f.most, .int .i64 f.step], .bool true]) ∧ Below w.heap.size w w') :
    Calls Try.prog 68 #[.agg #[.int .i64 op, .int .i64 d, .int .i64 n, .int .i64 m, .int .i64 imm, .int .i64 cond]] w fun e w' => e = .returned (.bool (rightF (some f) ⟨op, d, n, m, imm, cond⟩)) ∧ Below w.heap.size w w' := by
  have HF := Lib.hid hf
  clear hf
  have b1 : (op == 41) = false := by simpa using h41
  have b2 : (op == 28) = false := by simpa using h28
  have b3 : (op != 41) = true := by simp [h41]
  subst hc
  clear h41 h28
  have KI : Blk (w.alloc (.cells #[.int .i64 op, .int .i64 d, .int .i64 n, .int .i64 m, .int .i64 imm, .int .i64 0] 36)) w.heap.size 36 #[.int .i64 op, .int .i64 d, .int .i64 n, .int .i64 m, .int .i64 imm, .int .i64 0] := Blk.new _ _ _
  have HB0 : Hid (Below w.heap.size w (w.alloc (.cells #[.int .i64 op, .int .i64 d, .int .i64 n, .int .i64 m, .int .i64 imm, .int .i64 0] 36))) := (Below.refl _ _).alloc (Nat.le_refl _) _
  obtain ⟨fd, fn, fm, fl, ft, fs⟩ := f
  have HV : Hid (∃ v, rightF (some ⟨fd, fn, fm, fl, ft, fs⟩) ⟨op, d, n, m, imm, 0⟩ = v) := ⟨_, rfl⟩
  obtain ⟨v, hv⟩ := HV.out
  rw [hv]
  have hv' : (useS fd d && useS fn n && useS fm m && (if fs = 0 then imm == 0 else inS imm fl ft fs)) = v := hv
  clear hv
  have hv := hv'
  clear hv'
  dsimp only at HF
  clear HV
  obtain ⟨ud, hud⟩ : ∃ u, useS fd d = u := ⟨_, rfl⟩
  obtain ⟨un, hun⟩ : ∃ u, useS fn n = u := ⟨_, rfl⟩
  obtain ⟨um, hum⟩ : ∃ u, useS fm m = u := ⟨_, rfl⟩
  rw [hud, hun, hum] at hv
  have pd : Hid (∀ w, Calls Try.prog 80 #[.bool fd, .int .i64 d] w fun e w' => e = .returned (.bool ud) ∧ w = w') := fun w => (use_c fd d w).mono fun e w' h => ⟨h.1.trans (by rw [hud]), h.2⟩
  have pn : Hid (∀ w, Calls Try.prog 80 #[.bool fn, .int .i64 n] w fun e w' => e = .returned (.bool un) ∧ w = w') := fun w => (use_c fn n w).mono fun e w' h => ⟨h.1.trans (by rw [hun]), h.2⟩
  have pm : Hid (∀ w, Calls Try.prog 80 #[.bool fm, .int .i64 m] w fun e w' => e = .returned (.bool um) ∧ w = w') := fun w => (use_c fm m w).mono fun e w' h => ⟨h.1.trans (by rw [hum]), h.2⟩
  clear hud hun hum
  by_cases hs0 : fs = 0
  · rw [if_pos hs0] at hv
    subst hs0
    cases ud <;> cases un <;> cases um
    all_goals
      simp only [Bool.true_and, Bool.false_and, Bool.and_true, Bool.and_false] at hv
      have HV := Lib.hid hv
      clear hv
      have KI2 := Lib.hid KI
      go_enter Try.func68, Try.ntmps68
      go_wp2_with fail
      refine (HF.out _).mono ?_
      rintro e w2 ⟨rfl, hb⟩
      have ki := (KI.only (S := fun _ => False) (Only.of_below hb) id).alloc (.cells #[.bool fd, .bool fn, .bool fm, .int .i64 fl, .int .i64 ft, .int .i64 0] 134)
      have kf := Blk.new w2 134 #[.bool fd, .bool fn, .bool fm, .int .i64 fl, .int .i64 ft, .int .i64 0]
      have c1 := ki.cell 1
      have c2 := ki.cell 2
      have c3 := ki.cell 3
      have c4 := ki.cell 4
      have g0 := kf.cell 0
      have g1 := kf.cell 1
      have g2 := kf.cell 2
      have g3 := kf.cell 3
      have g4 := kf.cell 4
      have g5 := kf.cell 5
      simp at c1 c2 c3 c4 g0 g1 g2 g3 g4 g5
      have HB2 := Lib.hid ((HB0.out.trans (hb.mono HB0.out.size)).alloc (by have := HB0.out.size; have := hb.size; omega) (.cells #[.bool fd, .bool fn, .bool fm, .int .i64 fl, .int .i64 ft, .int .i64 0] 134))
      clear hb ki kf KI
      go_wp2_with (first | (go_at_call 80; (first | (with_reducible refine (pd.out _).mono ?_) | (with_reducible refine (pn.out _).mono ?_) | (with_reducible refine (pm.out _).mono ?_)); rintro e w' ⟨rfl, rfl⟩) | (go_at_call 78; refine (in_c _ _ _ _ (by decide) _).mono ?_; rintro e w' ⟨rfl, rfl⟩))
      go_ret
      exact ⟨retB (by first | exact HV.out | (have := HV.out; simp_all)), HB2.out⟩
  · rw [if_neg hs0] at hv
    have hsb : (fs == 0) = false := by simpa using hs0
    have HS0 := Lib.hid hs0
    clear hs0
    cases ud <;> cases un <;> cases um
    all_goals
      simp only [Bool.true_and, Bool.false_and, Bool.and_true, Bool.and_false] at hv
      have HV := Lib.hid hv
      clear hv
      have KI2 := Lib.hid KI
      go_enter Try.func68, Try.ntmps68
      go_wp2_with fail
      refine (HF.out _).mono ?_
      rintro e w2 ⟨rfl, hb⟩
      have ki := (KI.only (S := fun _ => False) (Only.of_below hb) id).alloc (.cells #[.bool fd, .bool fn, .bool fm, .int .i64 fl, .int .i64 ft, .int .i64 fs] 134)
      have kf := Blk.new w2 134 #[.bool fd, .bool fn, .bool fm, .int .i64 fl, .int .i64 ft, .int .i64 fs]
      have c1 := ki.cell 1
      have c2 := ki.cell 2
      have c3 := ki.cell 3
      have c4 := ki.cell 4
      have g0 := kf.cell 0
      have g1 := kf.cell 1
      have g2 := kf.cell 2
      have g3 := kf.cell 3
      have g4 := kf.cell 4
      have g5 := kf.cell 5
      simp at c1 c2 c3 c4 g0 g1 g2 g3 g4 g5
      have HB2 := Lib.hid ((HB0.out.trans (hb.mono HB0.out.size)).alloc (by have := HB0.out.size; have := hb.size; omega) (.cells #[.bool fd, .bool fn, .bool fm, .int .i64 fl, .int .i64 ft, .int .i64 fs] 134))
      clear hb ki kf KI
      go_wp2_with (first | (go_at_call 80; (first | (with_reducible refine (pd.out _).mono ?_) | (with_reducible refine (pn.out _).mono ?_) | (with_reducible refine (pm.out _).mono ?_)); rintro e w' ⟨rfl, rfl⟩) | (go_at_call 78; refine (in_c _ _ _ _ HS0.out _).mono ?_; rintro e w' ⟨rfl, rfl⟩))
      go_ret
      exact ⟨retB (by first | exact HV.out | (have := HV.out; simp_all)), HB2.out⟩
set_option maxHeartbeats 2000000 in
theorem ref_none (op d n m imm cond : Int) (w : World) (h41 : op ≠ 41) (h28 : op ≠ 28) (hc : cond = 0) (hf : ∀ w, Calls Try.prog 79 #[.int .i64 op] w fun e w' => e = .returned (.tuple #[.agg #[.bool false, .bool false, .bool false, .int .i64 0, .int .i64 0, .int .i64 0], .bool false]) ∧ Below w.heap.size w w') :
    Calls Try.prog 68 #[.agg #[.int .i64 op, .int .i64 d, .int .i64 n, .int .i64 m, .int .i64 imm, .int .i64 cond]] w fun e w' => e = .returned (.bool false) ∧ Below w.heap.size w w' := by
  have HF := Lib.hid hf
  have b1 : (op == 41) = false := by simpa using h41
  have b2 : (op == 28) = false := by simpa using h28
  have b3 : (op != 41) = true := by simp [h41]
  clear h41 h28 hf
  subst hc
  have KI : Blk (w.alloc (.cells #[.int .i64 op, .int .i64 d, .int .i64 n, .int .i64 m, .int .i64 imm, .int .i64 0] 36)) w.heap.size 36 #[.int .i64 op, .int .i64 d, .int .i64 n, .int .i64 m, .int .i64 imm, .int .i64 0] := Blk.new _ _ _
  have HB0 : Hid (Below w.heap.size w (w.alloc (.cells #[.int .i64 op, .int .i64 d, .int .i64 n, .int .i64 m, .int .i64 imm, .int .i64 0] 36))) := (Below.refl _ _).alloc (Nat.le_refl _) _
  go_enter Try.func68, Try.ntmps68
  go_wp2_with fail
  refine (HF.out _).mono ?_
  rintro e w2 ⟨rfl, hb⟩
  have HB2 := Lib.hid (HB0.out.trans (hb.mono HB0.out.size))
  clear hb KI
  go_wp2_with fail
  go_ret
  exact ⟨rfl, HB2.out.alloc HB2.out.size _⟩
set_option maxHeartbeats 4000000 in
theorem ref_28 (d n m imm : Int) (w : World) : Calls Try.prog 68 #[.agg #[.int .i64 28, .int .i64 d, .int .i64 n, .int .i64 m, .int .i64 imm, .int .i64 0]] w fun e w' => e = .returned (.bool (rightR ⟨28, d, n, m, imm, 0⟩)) ∧ Below w.heap.size w w' := by
  have KI : Blk (w.alloc (.cells #[.int .i64 28, .int .i64 d, .int .i64 n, .int .i64 m, .int .i64 imm, .int .i64 0] 36)) w.heap.size 36 #[.int .i64 28, .int .i64 d, .int .i64 n, .int .i64 m, .int .i64 imm, .int .i64 0] := Blk.new _ _ _
  have HB0 : Hid (Below w.heap.size w (w.alloc (.cells #[.int .i64 28, .int .i64 d, .int .i64 n, .int .i64 m, .int .i64 imm, .int .i64 0] 36))) := (Below.refl _ _).alloc (Nat.le_refl _) _
  have HV : Hid (∃ v, rightR ⟨28, d, n, m, imm, 0⟩ = v) := ⟨_, rfl⟩
  obtain ⟨v, hv⟩ := HV.out
  rw [hv]
  have hv : ((n == 0) && (imm == 0) && inS d 0 14 1 && !(d == 13) && inS m 0 14 1) = v := by rw [← hv]; simp [rightR]
  clear HV
  obtain ⟨u3, h3⟩ : ∃ u, inS d 0 14 1 = u := ⟨_, rfl⟩
  obtain ⟨u5, h5⟩ : ∃ u, inS m 0 14 1 = u := ⟨_, rfl⟩
  rw [h3, h5] at hv
  have p1 : Hid (∀ w, Calls Try.prog 78 #[.int .i64 d, .int .i64 0, .int .i64 14, .int .i64 1] w fun e w' => e = .returned (.bool u3) ∧ w = w') := fun w => (in_c _ _ _ _ (by decide) w).mono fun e w' h => ⟨h.1.trans (by rw [h3]), h.2⟩
  have p2 : Hid (∀ w, Calls Try.prog 78 #[.int .i64 m, .int .i64 0, .int .i64 14, .int .i64 1] w fun e w' => e = .returned (.bool u5) ∧ w = w') := fun w => (in_c _ _ _ _ (by decide) w).mono fun e w' h => ⟨h.1.trans (by rw [h5]), h.2⟩
  clear h3 h5
  cases h1 : (n == 0) <;> cases h2 : (imm == 0) <;> cases u3 <;> cases h4 : (d == 13) <;> cases u5
  all_goals
    have h4' : (d != 13) = !(d == 13) := rfl
    rw [h4] at h4'
    simp only [Bool.not_true, Bool.not_false] at h4'
    simp only [h1, h2, h4, Bool.and_true, Bool.and_false, Bool.not_true, Bool.not_false] at hv
    have HV := Lib.hid hv
    clear hv
    go_enter Try.func68, Try.ntmps68
    go_wp2_with (first | (go_at_call 78; (first | (with_reducible refine (p1.out _).mono ?_) | (with_reducible refine (p2.out _).mono ?_)); rintro e w' ⟨rfl, rfl⟩))
    go_ret
    exact ⟨retB HV.out, HB0.out⟩
theorem refRight_c (i : Ins) (w : World) : Calls Try.prog 68 #[.agg #[.int .i64 i.op, .int .i64 i.d, .int .i64 i.n, .int .i64 i.m, .int .i64 i.imm, .int .i64 i.cond]] w fun e w' => e = .returned (.bool (rightS i)) ∧ Below w.heap.size w w' := by
  rw [← rightR_eq]
  obtain ⟨op, d, n, m, imm, cond⟩ := i
  by_cases h41 : op = 41
  · subst h41
    cases hc : inS cond 0 13 1
    · exact (ref_41no d n m imm cond w hc).mono fun e w' h => by rw [show rightR ⟨41, d, n, m, imm, cond⟩ = false from by simp [rightR, hc]]; exact h
    · have hf := fun w => (forms_c 41 w)
      refine (ref_41 d n m imm cond ⟨false, false, false, -256, 254, 2⟩ w hc (fun w => (forms_c 41 w).mono fun e w' h => ?_)).mono fun e w' h => ?_
      · exact h
      · rw [show rightR ⟨41, d, n, m, imm, cond⟩ = rightF (formOf 41) ⟨41, d, n, m, imm, cond⟩ from by simp [rightR, hc]]; exact h
  · by_cases hc : cond = 0
    · by_cases h28 : op = 28
      · subst h28; subst hc; exact ref_28 d n m imm w
      · have e : rightR ⟨op, d, n, m, imm, cond⟩ = rightF (formOf op) ⟨op, d, n, m, imm, cond⟩ := by simp [rightR, h41, h28, hc]
        rw [e]
        cases hf : formOf op with
        | none => exact (ref_none op d n m imm cond w h41 h28 hc (fun w => (forms_c op w).mono fun e w' h => by unfold FormAt at h; rw [hf] at h; exact h)).mono fun e w' h => h
        | some f => exact (ref_row op d n m imm cond f w h41 h28 hc (fun w => (forms_c op w).mono fun e w' h => by unfold FormAt at h; rw [hf] at h; exact h)).mono fun e w' h => h
    · exact (ref_cond op d n m imm cond w h41 hc).mono fun e w' h => by rw [show rightR ⟨op, d, n, m, imm, cond⟩ = false from by simp [rightR, h41, hc]]; exact h
end Go.Proofs.Ytpihjhfaeloapaa
namespace Go.Proofs.Ytpihjhfaeloapaa
open Go.RowKit On Th
def sgn8 (n : Int) : Int := if 128 ≤ n then wrap64 (n - 256) else n
set_option maxHeartbeats 1000000 in
theorem sign_8 (n : Int) (w : World) : Calls Try.prog 67 #[.int .i64 n, .int .i64 8] w fun e w' => e = .returned (.int .i64 (sgn8 n)) ∧ w = w' := by
  have hs : Hid (sgn8 n = if 128 ≤ n then wrap64 (n - 256) else n) := rfl
  by_cases h : 128 ≤ n
  · rw [hs.out, if_pos h]; clear hs
    go_enter Try.func67, Try.ntmps67
    go_wp2_with fail
    go_ret
    exact ⟨rfl, rfl⟩
  · rw [hs.out, if_neg h]; clear hs
    go_enter Try.func67, Try.ntmps67
    go_wp2_with fail
    go_ret
    exact ⟨rfl, rfl⟩
def sgn11 (n : Int) : Int := if 1024 ≤ n then wrap64 (n - 2048) else n
set_option maxHeartbeats 1000000 in
theorem sign_11 (n : Int) (w : World) : Calls Try.prog 67 #[.int .i64 n, .int .i64 11] w fun e w' => e = .returned (.int .i64 (sgn11 n)) ∧ w = w' := by
  have hs : Hid (sgn11 n = if 1024 ≤ n then wrap64 (n - 2048) else n) := rfl
  by_cases h : 1024 ≤ n
  · rw [hs.out, if_pos h]; clear hs
    go_enter Try.func67, Try.ntmps67
    go_wp2_with fail
    go_ret
    exact ⟨rfl, rfl⟩
  · rw [hs.out, if_neg h]; clear hs
    go_enter Try.func67, Try.ntmps67
    go_wp2_with fail
    go_ret
    exact ⟨rfl, rfl⟩
theorem i64_m1' (x : Int) : bits .and .i64 x 1 = x % 2 := i64_mask 1 (by decide) x
theorem i64_m3' (x : Int) : bits .and .i64 x 3 = x % 4 := i64_mask 2 (by decide) x
theorem i64_m7' (x : Int) : bits .and .i64 x 7 = x % 8 := i64_mask 3 (by decide) x
theorem i64_m15' (x : Int) : bits .and .i64 x 15 = x % 16 := i64_mask 4 (by decide) x
theorem i64_m31' (x : Int) : bits .and .i64 x 31 = x % 32 := i64_mask 5 (by decide) x
theorem i64_m127' (x : Int) : bits .and .i64 x 127 = x % 128 := i64_mask 7 (by decide) x
theorem i64_m255' (x : Int) : bits .and .i64 x 255 = x % 256 := i64_mask 8 (by decide) x
theorem i64_m511' (x : Int) : bits .and .i64 x 511 = x % 512 := i64_mask 9 (by decide) x
theorem i64_m2047' (x : Int) : bits .and .i64 x 2047 = x % 2048 := i64_mask 11 (by decide) x
theorem sgn8_eq (n : Int) (h0 : 0 ≤ n) (h1 : n < 256) : sgn8 n = signS n 256 := by
  unfold sgn8 signS
  by_cases h : 128 ≤ n
  · rw [if_pos h, if_pos (by omega), w64 (by omega) (by omega)]
  · rw [if_neg h, if_neg (by omega)]
theorem sgn11_eq (n : Int) (h0 : 0 ≤ n) (h1 : n < 2048) : sgn11 n = signS n 2048 := by
  unfold sgn11 signS
  by_cases h : 1024 ≤ n
  · rw [if_pos h, if_pos (by omega), w64 (by omega) (by omega)]
  · rw [if_neg h, if_neg (by omega)]
theorem signS_range (n k : Int) (h0 : 0 ≤ n) (h1 : n < k) : - k ≤ signS n k ∧ signS n k < k := by
  unfold signS
  by_cases h : k / 2 ≤ n
  · rw [if_pos h]; omega
  · rw [if_neg h]; omega
theorem blk_ins {w : World} {b : Nat} {i : Ins} {r0 r1 r2 r3 r4 r5 : Int} (h : Blk w b 36 #[.int .i64 r0, .int .i64 r1, .int .i64 r2, .int .i64 r3, .int .i64 r4, .int .i64 r5]) (e : (⟨r0, r1, r2, r3, r4, r5⟩ : Ins) = i) :
    Blk w b 36 #[.int .i64 i.op, .int .i64 i.d, .int .i64 i.n, .int .i64 i.m, .int .i64 i.imm, .int .i64 i.cond] := by subst e; exact h
theorem ins_eq {a0 a1 a2 a3 a4 a5 b0 b1 b2 b3 b4 b5 : Int} (h0 : a0 = b0) (h1 : a1 = b1) (h2 : a2 = b2) (h3 : a3 = b3) (h4 : a4 = b4) (h5 : a5 = b5) : (⟨a0, a1, a2, a3, a4, a5⟩ : Ins) = ⟨b0, b1, b2, b3, b4, b5⟩ := by subst h0; subst h1; subst h2; subst h3; subst h4; subst h5; rfl
def RefOne (a k : Int) (i : Ins) : Prop := (k, i) = (if rightS (decR1 a) then (1, decR1 a) else (-1, ⟨0, 0, 0, 0, 0, 0⟩))
theorem six12 {w : World} {b : Nat} {t : TypeId} {v0 v1 v2 v3 v4 v5 : Value} (h : Blk w b t #[v0, v1, v2, v3, v4, v5]) : w.cell? ⟨b, 0, none⟩ = some v0 ∧ w.cell? ⟨b, 1, none⟩ = some v1 ∧ w.cell? ⟨b, 2, none⟩ = some v2 ∧ w.cell? ⟨b, 3, none⟩ = some v3 ∧ w.cell? ⟨b, 4, none⟩ = some v4 ∧ w.cell? ⟨b, 5, none⟩ = some v5 ∧ w.frozen? ⟨b, 0, none⟩ = false ∧ w.frozen? ⟨b, 1, none⟩ = false ∧ w.frozen? ⟨b, 2, none⟩ = false ∧ w.frozen? ⟨b, 3, none⟩ = false ∧ w.frozen? ⟨b, 4, none⟩ = false ∧ w.frozen? ⟨b, 5, none⟩ = false :=
  ⟨h.cell 0, h.cell 1, h.cell 2, h.cell 3, h.cell 4, h.cell 5, h.frozen 0, h.frozen 1, h.frozen 2, h.frozen 3, h.frozen 4, h.frozen 5⟩
theorem qf13 (a : Int) : bits .and .i64 (a / 8) 7 = a / 8 % 8 ∧ bits .and .i64 (a / 64) 7 = a / 64 % 8 ∧ bits .and .i64 (a / 64) 31 = a / 64 % 32 ∧ bits .and .i64 (a / 512) 1 = a / 512 % 2 ∧ bits .and .i64 (a / 2048) 3 = a / 2048 % 4 ∧ bits .and .i64 a 255 = a % 256 ∧ bits .and .i64 (a / 256) 7 = a / 256 % 8 ∧ bits .and .i64 (a / 64) 15 = a / 64 % 16 ∧ bits .and .i64 (a / 128) 1 = a / 128 % 2 ∧ bits .and .i64 (a / 8) 15 = a / 8 % 16 ∧ bits .and .i64 a 127 = a % 128 ∧ bits .and .i64 a 511 = a % 512 ∧ bits .and .i64 a 2047 = a % 2048 :=
  ⟨i64_m7' _, i64_m7' _, i64_m31' _, i64_m1' _, i64_m3' _, i64_m255' _, i64_m7' _, i64_m15' _, i64_m1' _, i64_m15' _, i64_m127' _, i64_m511' _, i64_m2047' _⟩
end Go.Proofs.Ytpihjhfaeloapaa
