/- ref14.forms. -/
import Derived.Test.YtpcjkllhieiiiaaThA
import Derived.BigGuardPart
namespace Go.Proofs.Ytpcjkllhieiiiaa
open Go.RowKit On Th
set_option maxHeartbeats 2000000 in
set_option maxRecDepth 100000 in
theorem forms_35 (w : World) : Calls Try.prog 26 #[.int .i64 35] w fun e w' => e = .returned (.tuple #[.agg #[.bool true, .bool false, .bool false, .int .i64 0, .int .i64 1020, .int .i64 4], .bool true]) ∧ Below w.heap.size w w' := by
  go_enter Try.func26, Try.ntmps26
  go_wp2_with fail
  refine bodyPost_ret (v := .tuple #[.agg #[.bool true, .bool false, .bool false, .int .i64 0, .int .i64 1020, .int .i64 4], .bool true]) (by rw [results_cell_tmp rfl]; go_simp) rfl ?_
  exact ⟨rfl, (Below.refl _ _).alloc (Nat.le_refl _) _⟩
set_option maxHeartbeats 2000000 in
set_option maxRecDepth 100000 in
theorem forms_36 (w : World) : Calls Try.prog 26 #[.int .i64 36] w fun e w' => e = .returned (.tuple #[.agg #[.bool true, .bool false, .bool false, .int .i64 0, .int .i64 1020, .int .i64 4], .bool true]) ∧ Below w.heap.size w w' := by
  go_enter Try.func26, Try.ntmps26
  go_wp2_with fail
  refine bodyPost_ret (v := .tuple #[.agg #[.bool true, .bool false, .bool false, .int .i64 0, .int .i64 1020, .int .i64 4], .bool true]) (by rw [results_cell_tmp rfl]; go_simp) rfl ?_
  exact ⟨rfl, (Below.refl _ _).alloc (Nat.le_refl _) _⟩
set_option maxHeartbeats 2000000 in
set_option maxRecDepth 100000 in
theorem forms_37 (w : World) : Calls Try.prog 26 #[.int .i64 37] w fun e w' => e = .returned (.tuple #[.agg #[.bool false, .bool false, .bool false, .int .i64 0, .int .i64 508, .int .i64 4], .bool true]) ∧ Below w.heap.size w w' := by
  go_enter Try.func26, Try.ntmps26
  go_wp2_with fail
  refine bodyPost_ret (v := .tuple #[.agg #[.bool false, .bool false, .bool false, .int .i64 0, .int .i64 508, .int .i64 4], .bool true]) (by rw [results_cell_tmp rfl]; go_simp) rfl ?_
  exact ⟨rfl, (Below.refl _ _).alloc (Nat.le_refl _) _⟩
set_option maxHeartbeats 2000000 in
set_option maxRecDepth 100000 in
theorem forms_38 (w : World) : Calls Try.prog 26 #[.int .i64 38] w fun e w' => e = .returned (.tuple #[.agg #[.bool false, .bool false, .bool false, .int .i64 0, .int .i64 508, .int .i64 4], .bool true]) ∧ Below w.heap.size w w' := by
  go_enter Try.func26, Try.ntmps26
  go_wp2_with fail
  refine bodyPost_ret (v := .tuple #[.agg #[.bool false, .bool false, .bool false, .int .i64 0, .int .i64 508, .int .i64 4], .bool true]) (by rw [results_cell_tmp rfl]; go_simp) rfl ?_
  exact ⟨rfl, (Below.refl _ _).alloc (Nat.le_refl _) _⟩
set_option maxHeartbeats 2000000 in
set_option maxRecDepth 100000 in
theorem forms_39 (w : World) : Calls Try.prog 26 #[.int .i64 39] w fun e w' => e = .returned (.tuple #[.agg #[.bool false, .bool false, .bool false, .int .i64 1, .int .i64 511, .int .i64 1], .bool true]) ∧ Below w.heap.size w w' := by
  go_enter Try.func26, Try.ntmps26
  go_wp2_with fail
  refine bodyPost_ret (v := .tuple #[.agg #[.bool false, .bool false, .bool false, .int .i64 1, .int .i64 511, .int .i64 1], .bool true]) (by rw [results_cell_tmp rfl]; go_simp) rfl ?_
  exact ⟨rfl, (Below.refl _ _).alloc (Nat.le_refl _) _⟩
set_option maxHeartbeats 2000000 in
set_option maxRecDepth 100000 in
theorem forms_40 (w : World) : Calls Try.prog 26 #[.int .i64 40] w fun e w' => e = .returned (.tuple #[.agg #[.bool false, .bool false, .bool false, .int .i64 1, .int .i64 511, .int .i64 1], .bool true]) ∧ Below w.heap.size w w' := by
  go_enter Try.func26, Try.ntmps26
  go_wp2_with fail
  refine bodyPost_ret (v := .tuple #[.agg #[.bool false, .bool false, .bool false, .int .i64 1, .int .i64 511, .int .i64 1], .bool true]) (by rw [results_cell_tmp rfl]; go_simp) rfl ?_
  exact ⟨rfl, (Below.refl _ _).alloc (Nat.le_refl _) _⟩
set_option maxHeartbeats 2000000 in
set_option maxRecDepth 100000 in
theorem forms_41 (w : World) : Calls Try.prog 26 #[.int .i64 41] w fun e w' => e = .returned (.tuple #[.agg #[.bool false, .bool false, .bool false, .int .i64 (-256), .int .i64 254, .int .i64 2], .bool true]) ∧ Below w.heap.size w w' := by
  go_enter Try.func26, Try.ntmps26
  go_wp2_with fail
  refine bodyPost_ret (v := .tuple #[.agg #[.bool false, .bool false, .bool false, .int .i64 (-256), .int .i64 254, .int .i64 2], .bool true]) (by rw [results_cell_tmp rfl]; go_simp) rfl ?_
  exact ⟨rfl, (Below.refl _ _).alloc (Nat.le_refl _) _⟩
set_option maxHeartbeats 2000000 in
set_option maxRecDepth 100000 in
theorem forms_42 (w : World) : Calls Try.prog 26 #[.int .i64 42] w fun e w' => e = .returned (.tuple #[.agg #[.bool false, .bool false, .bool false, .int .i64 (-2048), .int .i64 2046, .int .i64 2], .bool true]) ∧ Below w.heap.size w w' := by
  go_enter Try.func26, Try.ntmps26
  go_wp2_with fail
  refine bodyPost_ret (v := .tuple #[.agg #[.bool false, .bool false, .bool false, .int .i64 (-2048), .int .i64 2046, .int .i64 2], .bool true]) (by rw [results_cell_tmp rfl]; go_simp) rfl ?_
  exact ⟨rfl, (Below.refl _ _).alloc (Nat.le_refl _) _⟩
set_option maxHeartbeats 2000000 in
set_option maxRecDepth 100000 in
theorem forms_43 (w : World) : Calls Try.prog 26 #[.int .i64 43] w fun e w' => e = .returned (.tuple #[.agg #[.bool false, .bool false, .bool false, .int .i64 (-16777216), .int .i64 16777214, .int .i64 2], .bool true]) ∧ Below w.heap.size w w' := by
  go_enter Try.func26, Try.ntmps26
  go_wp2_with fail
  refine bodyPost_ret (v := .tuple #[.agg #[.bool false, .bool false, .bool false, .int .i64 (-16777216), .int .i64 16777214, .int .i64 2], .bool true]) (by rw [results_cell_tmp rfl]; go_simp) rfl ?_
  exact ⟨rfl, (Below.refl _ _).alloc (Nat.le_refl _) _⟩
set_option maxHeartbeats 2000000 in
set_option maxRecDepth 100000 in
theorem forms_44 (w : World) : Calls Try.prog 26 #[.int .i64 44] w fun e w' => e = .returned (.tuple #[.agg #[.bool false, .bool false, .bool false, .int .i64 0, .int .i64 255, .int .i64 1], .bool true]) ∧ Below w.heap.size w w' := by
  go_enter Try.func26, Try.ntmps26
  go_wp2_with fail
  refine bodyPost_ret (v := .tuple #[.agg #[.bool false, .bool false, .bool false, .int .i64 0, .int .i64 255, .int .i64 1], .bool true]) (by rw [results_cell_tmp rfl]; go_simp) rfl ?_
  exact ⟨rfl, (Below.refl _ _).alloc (Nat.le_refl _) _⟩
set_option maxHeartbeats 2000000 in
set_option maxRecDepth 100000 in
theorem forms_45 (w : World) : Calls Try.prog 26 #[.int .i64 45] w fun e w' => e = .returned (.tuple #[.agg #[.bool false, .bool false, .bool false, .int .i64 0, .int .i64 0, .int .i64 0], .bool true]) ∧ Below w.heap.size w w' := by
  go_enter Try.func26, Try.ntmps26
  go_wp2_with fail
  refine bodyPost_ret (v := .tuple #[.agg #[.bool false, .bool false, .bool false, .int .i64 0, .int .i64 0, .int .i64 0], .bool true]) (by rw [results_cell_tmp rfl]; go_simp) rfl ?_
  exact ⟨rfl, (Below.refl _ _).alloc (Nat.le_refl _) _⟩
set_option maxHeartbeats 2000000 in
set_option maxRecDepth 100000 in
theorem forms_none_lo (op : Int) (g1 : op ≠ 1) (g2 : op ≠ 2) (g3 : op ≠ 3) (g4 : op ≠ 4) (g5 : op ≠ 5) (g29 : op ≠ 29) (g30 : op ≠ 30) (g6 : op ≠ 6) (g7 : op ≠ 7) (g31 : op ≠ 31) (g32 : op ≠ 32) (g33 : op ≠ 33) (g34 : op ≠ 34) (g35 : op ≠ 35) (g36 : op ≠ 36) (g37 : op ≠ 37) (g38 : op ≠ 38) (g39 : op ≠ 39) (g40 : op ≠ 40) (g41 : op ≠ 41) (g42 : op ≠ 42) (g43 : op ≠ 43) (g44 : op ≠ 44) (g45 : op ≠ 45) (h1 : op < 8) (w : World) : Calls Try.prog 26 #[.int .i64 op] w fun e w' => e = .returned (.tuple #[.agg #[.bool false, .bool false, .bool false, .int .i64 0, .int .i64 0, .int .i64 0], .bool false]) ∧ Below w.heap.size w w' := by
  have n1 : (op == 1) = false := by simpa using g1
  have n2 : (op == 2) = false := by simpa using g2
  have n3 : (op == 3) = false := by simpa using g3
  have n4 : (op == 4) = false := by simpa using g4
  have n5 : (op == 5) = false := by simpa using g5
  have n29 : (op == 29) = false := by simpa using g29
  have n30 : (op == 30) = false := by simpa using g30
  have n6 : (op == 6) = false := by simpa using g6
  have n7 : (op == 7) = false := by simpa using g7
  have n31 : (op == 31) = false := by simpa using g31
  have n32 : (op == 32) = false := by simpa using g32
  have n33 : (op == 33) = false := by simpa using g33
  have n34 : (op == 34) = false := by simpa using g34
  have n35 : (op == 35) = false := by simpa using g35
  have n36 : (op == 36) = false := by simpa using g36
  have n37 : (op == 37) = false := by simpa using g37
  have n38 : (op == 38) = false := by simpa using g38
  have n39 : (op == 39) = false := by simpa using g39
  have n40 : (op == 40) = false := by simpa using g40
  have n41 : (op == 41) = false := by simpa using g41
  have n42 : (op == 42) = false := by simpa using g42
  have n43 : (op == 43) = false := by simpa using g43
  have n44 : (op == 44) = false := by simpa using g44
  have n45 : (op == 45) = false := by simpa using g45
  clear g1 g2 g3 g4 g5 g29 g30 g6 g7 g31 g32 g33 g34 g35 g36 g37 g38 g39 g40 g41 g42 g43 g44 g45
  have h5 : ¬ (8 ≤ op) := by omega
  have h6 : ¬ (12 ≤ op) := by omega
  go_enter Try.func26, Try.ntmps26
  go_wp2_with fail
  refine bodyPost_ret (v := .tuple #[.agg #[.bool false, .bool false, .bool false, .int .i64 0, .int .i64 0, .int .i64 0], .bool false]) (by rw [results_cell_tmp rfl]; go_simp) rfl ?_
  exact ⟨rfl, (Below.refl _ _).alloc (Nat.le_refl _) _⟩
set_option maxHeartbeats 2000000 in
set_option maxRecDepth 100000 in
theorem forms_none_hi (op : Int) (g1 : op ≠ 1) (g2 : op ≠ 2) (g3 : op ≠ 3) (g4 : op ≠ 4) (g5 : op ≠ 5) (g29 : op ≠ 29) (g30 : op ≠ 30) (g6 : op ≠ 6) (g7 : op ≠ 7) (g31 : op ≠ 31) (g32 : op ≠ 32) (g33 : op ≠ 33) (g34 : op ≠ 34) (g35 : op ≠ 35) (g36 : op ≠ 36) (g37 : op ≠ 37) (g38 : op ≠ 38) (g39 : op ≠ 39) (g40 : op ≠ 40) (g41 : op ≠ 41) (g42 : op ≠ 42) (g43 : op ≠ 43) (g44 : op ≠ 44) (g45 : op ≠ 45) (h1 : 27 < op) (w : World) : Calls Try.prog 26 #[.int .i64 op] w fun e w' => e = .returned (.tuple #[.agg #[.bool false, .bool false, .bool false, .int .i64 0, .int .i64 0, .int .i64 0], .bool false]) ∧ Below w.heap.size w w' := by
  have n1 : (op == 1) = false := by simpa using g1
  have n2 : (op == 2) = false := by simpa using g2
  have n3 : (op == 3) = false := by simpa using g3
  have n4 : (op == 4) = false := by simpa using g4
  have n5 : (op == 5) = false := by simpa using g5
  have n29 : (op == 29) = false := by simpa using g29
  have n30 : (op == 30) = false := by simpa using g30
  have n6 : (op == 6) = false := by simpa using g6
  have n7 : (op == 7) = false := by simpa using g7
  have n31 : (op == 31) = false := by simpa using g31
  have n32 : (op == 32) = false := by simpa using g32
  have n33 : (op == 33) = false := by simpa using g33
  have n34 : (op == 34) = false := by simpa using g34
  have n35 : (op == 35) = false := by simpa using g35
  have n36 : (op == 36) = false := by simpa using g36
  have n37 : (op == 37) = false := by simpa using g37
  have n38 : (op == 38) = false := by simpa using g38
  have n39 : (op == 39) = false := by simpa using g39
  have n40 : (op == 40) = false := by simpa using g40
  have n41 : (op == 41) = false := by simpa using g41
  have n42 : (op == 42) = false := by simpa using g42
  have n43 : (op == 43) = false := by simpa using g43
  have n44 : (op == 44) = false := by simpa using g44
  have n45 : (op == 45) = false := by simpa using g45
  clear g1 g2 g3 g4 g5 g29 g30 g6 g7 g31 g32 g33 g34 g35 g36 g37 g38 g39 g40 g41 g42 g43 g44 g45
  have h3 : 8 ≤ op := by omega
  have h4 : ¬ (op ≤ 11) := by omega
  have h5 : 12 ≤ op := by omega
  have h6 : ¬ (op ≤ 27) := by omega
  go_enter Try.func26, Try.ntmps26
  go_wp2_with fail
  refine bodyPost_ret (v := .tuple #[.agg #[.bool false, .bool false, .bool false, .int .i64 0, .int .i64 0, .int .i64 0], .bool false]) (by rw [results_cell_tmp rfl]; go_simp) rfl ?_
  exact ⟨rfl, (Below.refl _ _).alloc (Nat.le_refl _) _⟩
end Go.Proofs.Ytpcjkllhieiiiaa
