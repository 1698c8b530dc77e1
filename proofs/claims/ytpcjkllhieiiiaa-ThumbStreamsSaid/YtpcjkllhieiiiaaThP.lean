/- ref14.forms. -/
import Derived.Test.YtpcjkllhieiiiaaThA
import Derived.BigGuardPart
namespace Go.Proofs.Ytpcjkllhieiiiaa
open Go.RowKit On Th
set_option maxHeartbeats 2000000 in
set_option maxRecDepth 100000 in
theorem forms_1 (w : World) : Calls Try.prog 26 #[.int .i64 1] w fun e w' => e = .returned (.tuple #[.agg #[.bool true, .bool false, .bool true, .int .i64 0, .int .i64 31, .int .i64 1], .bool true]) ∧ Below w.heap.size w w' := by
  go_enter Try.func26, Try.ntmps26
  go_wp2_with fail
  refine bodyPost_ret (v := .tuple #[.agg #[.bool true, .bool false, .bool true, .int .i64 0, .int .i64 31, .int .i64 1], .bool true]) (by rw [results_cell_tmp rfl]; go_simp) rfl ?_
  exact ⟨rfl, (Below.refl _ _).alloc (Nat.le_refl _) _⟩
set_option maxHeartbeats 2000000 in
set_option maxRecDepth 100000 in
theorem forms_2 (w : World) : Calls Try.prog 26 #[.int .i64 2] w fun e w' => e = .returned (.tuple #[.agg #[.bool true, .bool false, .bool true, .int .i64 1, .int .i64 32, .int .i64 1], .bool true]) ∧ Below w.heap.size w w' := by
  go_enter Try.func26, Try.ntmps26
  go_wp2_with fail
  refine bodyPost_ret (v := .tuple #[.agg #[.bool true, .bool false, .bool true, .int .i64 1, .int .i64 32, .int .i64 1], .bool true]) (by rw [results_cell_tmp rfl]; go_simp) rfl ?_
  exact ⟨rfl, (Below.refl _ _).alloc (Nat.le_refl _) _⟩
set_option maxHeartbeats 2000000 in
set_option maxRecDepth 100000 in
theorem forms_3 (w : World) : Calls Try.prog 26 #[.int .i64 3] w fun e w' => e = .returned (.tuple #[.agg #[.bool true, .bool false, .bool true, .int .i64 1, .int .i64 32, .int .i64 1], .bool true]) ∧ Below w.heap.size w w' := by
  go_enter Try.func26, Try.ntmps26
  go_wp2_with fail
  refine bodyPost_ret (v := .tuple #[.agg #[.bool true, .bool false, .bool true, .int .i64 1, .int .i64 32, .int .i64 1], .bool true]) (by rw [results_cell_tmp rfl]; go_simp) rfl ?_
  exact ⟨rfl, (Below.refl _ _).alloc (Nat.le_refl _) _⟩
set_option maxHeartbeats 2000000 in
set_option maxRecDepth 100000 in
theorem forms_4 (w : World) : Calls Try.prog 26 #[.int .i64 4] w fun e w' => e = .returned (.tuple #[.agg #[.bool true, .bool true, .bool true, .int .i64 0, .int .i64 0, .int .i64 1], .bool true]) ∧ Below w.heap.size w w' := by
  go_enter Try.func26, Try.ntmps26
  go_wp2_with fail
  refine bodyPost_ret (v := .tuple #[.agg #[.bool true, .bool true, .bool true, .int .i64 0, .int .i64 0, .int .i64 1], .bool true]) (by rw [results_cell_tmp rfl]; go_simp) rfl ?_
  exact ⟨rfl, (Below.refl _ _).alloc (Nat.le_refl _) _⟩
set_option maxHeartbeats 2000000 in
set_option maxRecDepth 100000 in
theorem forms_5 (w : World) : Calls Try.prog 26 #[.int .i64 5] w fun e w' => e = .returned (.tuple #[.agg #[.bool true, .bool true, .bool true, .int .i64 0, .int .i64 0, .int .i64 1], .bool true]) ∧ Below w.heap.size w w' := by
  go_enter Try.func26, Try.ntmps26
  go_wp2_with fail
  refine bodyPost_ret (v := .tuple #[.agg #[.bool true, .bool true, .bool true, .int .i64 0, .int .i64 0, .int .i64 1], .bool true]) (by rw [results_cell_tmp rfl]; go_simp) rfl ?_
  exact ⟨rfl, (Below.refl _ _).alloc (Nat.le_refl _) _⟩
set_option maxHeartbeats 2000000 in
set_option maxRecDepth 100000 in
theorem forms_29 (w : World) : Calls Try.prog 26 #[.int .i64 29] w fun e w' => e = .returned (.tuple #[.agg #[.bool true, .bool true, .bool true, .int .i64 0, .int .i64 0, .int .i64 1], .bool true]) ∧ Below w.heap.size w w' := by
  go_enter Try.func26, Try.ntmps26
  go_wp2_with fail
  refine bodyPost_ret (v := .tuple #[.agg #[.bool true, .bool true, .bool true, .int .i64 0, .int .i64 0, .int .i64 1], .bool true]) (by rw [results_cell_tmp rfl]; go_simp) rfl ?_
  exact ⟨rfl, (Below.refl _ _).alloc (Nat.le_refl _) _⟩
set_option maxHeartbeats 2000000 in
set_option maxRecDepth 100000 in
theorem forms_30 (w : World) : Calls Try.prog 26 #[.int .i64 30] w fun e w' => e = .returned (.tuple #[.agg #[.bool true, .bool true, .bool true, .int .i64 0, .int .i64 0, .int .i64 1], .bool true]) ∧ Below w.heap.size w w' := by
  go_enter Try.func26, Try.ntmps26
  go_wp2_with fail
  refine bodyPost_ret (v := .tuple #[.agg #[.bool true, .bool true, .bool true, .int .i64 0, .int .i64 0, .int .i64 1], .bool true]) (by rw [results_cell_tmp rfl]; go_simp) rfl ?_
  exact ⟨rfl, (Below.refl _ _).alloc (Nat.le_refl _) _⟩
set_option maxHeartbeats 2000000 in
set_option maxRecDepth 100000 in
theorem forms_6 (w : World) : Calls Try.prog 26 #[.int .i64 6] w fun e w' => e = .returned (.tuple #[.agg #[.bool true, .bool true, .bool false, .int .i64 0, .int .i64 7, .int .i64 1], .bool true]) ∧ Below w.heap.size w w' := by
  go_enter Try.func26, Try.ntmps26
  go_wp2_with fail
  refine bodyPost_ret (v := .tuple #[.agg #[.bool true, .bool true, .bool false, .int .i64 0, .int .i64 7, .int .i64 1], .bool true]) (by rw [results_cell_tmp rfl]; go_simp) rfl ?_
  exact ⟨rfl, (Below.refl _ _).alloc (Nat.le_refl _) _⟩
set_option maxHeartbeats 2000000 in
set_option maxRecDepth 100000 in
theorem forms_7 (w : World) : Calls Try.prog 26 #[.int .i64 7] w fun e w' => e = .returned (.tuple #[.agg #[.bool true, .bool true, .bool false, .int .i64 0, .int .i64 7, .int .i64 1], .bool true]) ∧ Below w.heap.size w w' := by
  go_enter Try.func26, Try.ntmps26
  go_wp2_with fail
  refine bodyPost_ret (v := .tuple #[.agg #[.bool true, .bool true, .bool false, .int .i64 0, .int .i64 7, .int .i64 1], .bool true]) (by rw [results_cell_tmp rfl]; go_simp) rfl ?_
  exact ⟨rfl, (Below.refl _ _).alloc (Nat.le_refl _) _⟩
set_option maxHeartbeats 2000000 in
set_option maxRecDepth 100000 in
theorem forms_31 (w : World) : Calls Try.prog 26 #[.int .i64 31] w fun e w' => e = .returned (.tuple #[.agg #[.bool true, .bool true, .bool false, .int .i64 0, .int .i64 124, .int .i64 4], .bool true]) ∧ Below w.heap.size w w' := by
  go_enter Try.func26, Try.ntmps26
  go_wp2_with fail
  refine bodyPost_ret (v := .tuple #[.agg #[.bool true, .bool true, .bool false, .int .i64 0, .int .i64 124, .int .i64 4], .bool true]) (by rw [results_cell_tmp rfl]; go_simp) rfl ?_
  exact ⟨rfl, (Below.refl _ _).alloc (Nat.le_refl _) _⟩
set_option maxHeartbeats 2000000 in
set_option maxRecDepth 100000 in
theorem forms_32 (w : World) : Calls Try.prog 26 #[.int .i64 32] w fun e w' => e = .returned (.tuple #[.agg #[.bool true, .bool true, .bool false, .int .i64 0, .int .i64 124, .int .i64 4], .bool true]) ∧ Below w.heap.size w w' := by
  go_enter Try.func26, Try.ntmps26
  go_wp2_with fail
  refine bodyPost_ret (v := .tuple #[.agg #[.bool true, .bool true, .bool false, .int .i64 0, .int .i64 124, .int .i64 4], .bool true]) (by rw [results_cell_tmp rfl]; go_simp) rfl ?_
  exact ⟨rfl, (Below.refl _ _).alloc (Nat.le_refl _) _⟩
set_option maxHeartbeats 2000000 in
set_option maxRecDepth 100000 in
theorem forms_33 (w : World) : Calls Try.prog 26 #[.int .i64 33] w fun e w' => e = .returned (.tuple #[.agg #[.bool true, .bool true, .bool false, .int .i64 0, .int .i64 31, .int .i64 1], .bool true]) ∧ Below w.heap.size w w' := by
  go_enter Try.func26, Try.ntmps26
  go_wp2_with fail
  refine bodyPost_ret (v := .tuple #[.agg #[.bool true, .bool true, .bool false, .int .i64 0, .int .i64 31, .int .i64 1], .bool true]) (by rw [results_cell_tmp rfl]; go_simp) rfl ?_
  exact ⟨rfl, (Below.refl _ _).alloc (Nat.le_refl _) _⟩
set_option maxHeartbeats 2000000 in
set_option maxRecDepth 100000 in
theorem forms_34 (w : World) : Calls Try.prog 26 #[.int .i64 34] w fun e w' => e = .returned (.tuple #[.agg #[.bool true, .bool true, .bool false, .int .i64 0, .int .i64 31, .int .i64 1], .bool true]) ∧ Below w.heap.size w w' := by
  go_enter Try.func26, Try.ntmps26
  go_wp2_with fail
  refine bodyPost_ret (v := .tuple #[.agg #[.bool true, .bool true, .bool false, .int .i64 0, .int .i64 31, .int .i64 1], .bool true]) (by rw [results_cell_tmp rfl]; go_simp) rfl ?_
  exact ⟨rfl, (Below.refl _ _).alloc (Nat.le_refl _) _⟩
set_option maxHeartbeats 2000000 in
set_option maxRecDepth 100000 in
theorem forms_mov (op : Int) (h1 : 8 ≤ op) (h2 : op ≤ 11) (w : World) : Calls Try.prog 26 #[.int .i64 op] w fun e w' => e = .returned (.tuple #[.agg #[.bool true, .bool false, .bool false, .int .i64 0, .int .i64 255, .int .i64 1], .bool true]) ∧ Below w.heap.size w w' := by
  have n1 : (op == 1) = false := by simp; omega
  have n2 : (op == 2) = false := by simp; omega
  have n3 : (op == 3) = false := by simp; omega
  have n4 : (op == 4) = false := by simp; omega
  have n5 : (op == 5) = false := by simp; omega
  have n29 : (op == 29) = false := by simp; omega
  have n30 : (op == 30) = false := by simp; omega
  have n6 : (op == 6) = false := by simp; omega
  have n7 : (op == 7) = false := by simp; omega
  go_enter Try.func26, Try.ntmps26
  go_wp2_with fail
  refine bodyPost_ret (v := .tuple #[.agg #[.bool true, .bool false, .bool false, .int .i64 0, .int .i64 255, .int .i64 1], .bool true]) (by rw [results_cell_tmp rfl]; go_simp) rfl ?_
  exact ⟨rfl, (Below.refl _ _).alloc (Nat.le_refl _) _⟩
set_option maxHeartbeats 2000000 in
set_option maxRecDepth 100000 in
theorem forms_and (op : Int) (h1 : 12 ≤ op) (h2 : op ≤ 27) (w : World) : Calls Try.prog 26 #[.int .i64 op] w fun e w' => e = .returned (.tuple #[.agg #[.bool true, .bool false, .bool true, .int .i64 0, .int .i64 0, .int .i64 1], .bool true]) ∧ Below w.heap.size w w' := by
  have n1 : (op == 1) = false := by simp; omega
  have n2 : (op == 2) = false := by simp; omega
  have n3 : (op == 3) = false := by simp; omega
  have n4 : (op == 4) = false := by simp; omega
  have n5 : (op == 5) = false := by simp; omega
  have n29 : (op == 29) = false := by simp; omega
  have n30 : (op == 30) = false := by simp; omega
  have n6 : (op == 6) = false := by simp; omega
  have n7 : (op == 7) = false := by simp; omega
  have h3 : 8 ≤ op := by omega
  have h4 : ¬ (op ≤ 11) := by omega
  go_enter Try.func26, Try.ntmps26
  go_wp2_with fail
  refine bodyPost_ret (v := .tuple #[.agg #[.bool true, .bool false, .bool true, .int .i64 0, .int .i64 0, .int .i64 1], .bool true]) (by rw [results_cell_tmp rfl]; go_simp) rfl ?_
  exact ⟨rfl, (Below.refl _ _).alloc (Nat.le_refl _) _⟩
end Go.Proofs.Ytpcjkllhieiiiaa
