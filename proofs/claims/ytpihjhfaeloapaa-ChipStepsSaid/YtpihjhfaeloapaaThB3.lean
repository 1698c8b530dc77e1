/- thumb.find, one theorem for each number of an instruction. -/
import Derived.Test.YtpihjhfaeloapaaVc
namespace Go.Proofs.Ytpihjhfaeloapaa
open Go.RowKit On Th
set_option maxHeartbeats 2000000 in
set_option maxRecDepth 100000 in
theorem find_31 (w : World) : Calls Try.prog 72 #[.int .i64 31] w (FoundAt w 31 26624 #[.int .i64 0, .int .i64 0, .int .i64 3, .int .i64 0, .int .i64 7, .int .i64 1, .int .i64 1, .int .i64 3, .int .i64 3, .int .i64 0, .int .i64 7, .int .i64 1, .int .i64 3, .int .i64 6, .int .i64 5, .int .i64 0, .int .i64 124, .int .i64 4] 3) := by
  go_enter Try.func72, Try.ntmps72
  go_wp2_with fail
  refine (reg_c _ _ _).mono ?_
  rintro e w' ⟨rfl, rfl⟩
  go_wp2_with fail
  refine (reg_c _ _ _).mono ?_
  rintro e w' ⟨rfl, rfl⟩
  go_wp2_with fail
  refine (reg_c _ _ _).mono ?_
  rintro e w' ⟨rfl, rfl⟩
  go_wp2_with fail
  refine (reg_c _ _ _).mono ?_
  rintro e w' ⟨rfl, rfl⟩
  go_wp2_with fail
  refine (reg_c _ _ _).mono ?_
  rintro e w' ⟨rfl, rfl⟩
  have k0 : Blk (((((((((((w.alloc (.cells #[.int .i64 0, .int .u16 0, .slice none 0 0] 123)).alloc (.cells #[.int .i64 0, .int .i64 0, .int .i64 3, .int .i64 0, .int .i64 7, .int .i64 1] 140)).alloc (.cells #[.int .i64 2, .int .i64 3, .int .i64 3, .int .i64 0, .int .i64 7, .int .i64 1] 140)).alloc (.cells #[.int .i64 0, .int .i64 8, .int .i64 3, .int .i64 0, .int .i64 7, .int .i64 1] 140)).alloc (.cells #[.int .i64 1, .int .i64 3, .int .i64 3, .int .i64 0, .int .i64 7, .int .i64 1] 140)).alloc (.cells #[.int .i64 0, .int .i64 0, .int .i64 3, .int .i64 0, .int .i64 7, .int .i64 1] 140)).alloc (.cells #[.int .i64 2, .int .i64 3, .int .i64 3, .int .i64 0, .int .i64 7, .int .i64 1] 140)).alloc (.cells #[.int .i64 0, .int .i64 8, .int .i64 3, .int .i64 0, .int .i64 7, .int .i64 1] 140)).alloc (.cells #[.int .i64 1, .int .i64 3, .int .i64 3, .int .i64 0, .int .i64 7, .int .i64 1] 140)).alloc (.cells #[.int .i64 2, .int .i64 6, .int .i64 3, .int .i64 0, .int .i64 7, .int .i64 1] 140)).alloc (.cells #[.int .i64 2, .int .i64 6, .int .i64 3, .int .i64 0, .int .i64 7, .int .i64 1] 140)).drew (w.heap.size + 1 + 1 + 1 + 1 + 1) 140 #[.int .i64 0, .int .i64 0, .int .i64 3, .int .i64 0, .int .i64 7, .int .i64 1] := ((Blk.alloc (Blk.alloc (Blk.alloc (Blk.alloc (Blk.alloc (Blk.new' _ _ _ _ (by simp only [World.size_alloc])) _) _) _) _) _)).drew
  have k1 : Blk (((((((((((w.alloc (.cells #[.int .i64 0, .int .u16 0, .slice none 0 0] 123)).alloc (.cells #[.int .i64 0, .int .i64 0, .int .i64 3, .int .i64 0, .int .i64 7, .int .i64 1] 140)).alloc (.cells #[.int .i64 2, .int .i64 3, .int .i64 3, .int .i64 0, .int .i64 7, .int .i64 1] 140)).alloc (.cells #[.int .i64 0, .int .i64 8, .int .i64 3, .int .i64 0, .int .i64 7, .int .i64 1] 140)).alloc (.cells #[.int .i64 1, .int .i64 3, .int .i64 3, .int .i64 0, .int .i64 7, .int .i64 1] 140)).alloc (.cells #[.int .i64 0, .int .i64 0, .int .i64 3, .int .i64 0, .int .i64 7, .int .i64 1] 140)).alloc (.cells #[.int .i64 2, .int .i64 3, .int .i64 3, .int .i64 0, .int .i64 7, .int .i64 1] 140)).alloc (.cells #[.int .i64 0, .int .i64 8, .int .i64 3, .int .i64 0, .int .i64 7, .int .i64 1] 140)).alloc (.cells #[.int .i64 1, .int .i64 3, .int .i64 3, .int .i64 0, .int .i64 7, .int .i64 1] 140)).alloc (.cells #[.int .i64 2, .int .i64 6, .int .i64 3, .int .i64 0, .int .i64 7, .int .i64 1] 140)).alloc (.cells #[.int .i64 2, .int .i64 6, .int .i64 3, .int .i64 0, .int .i64 7, .int .i64 1] 140)).drew (w.heap.size + 1 + 1 + 1 + 1 + 1 + 1 + 1 + 1) 140 #[.int .i64 1, .int .i64 3, .int .i64 3, .int .i64 0, .int .i64 7, .int .i64 1] := ((Blk.alloc (Blk.alloc (Blk.new' _ _ _ _ (by simp only [World.size_alloc])) _) _)).drew
  have kf := And.intro (Blk.six k0) (Blk.six k1)
  have kg := And.intro (Blk.six (k0.alloc (.cells #[.int .i64 3, .int .i64 6, .int .i64 5, .int .i64 0, .int .i64 124, .int .i64 4] 140))) (Blk.six (k1.alloc (.cells #[.int .i64 3, .int .i64 6, .int .i64 5, .int .i64 0, .int .i64 124, .int .i64 4] 140)))
  clear k0 k1
  go_wp2_with fail
  go_region_held3 (fun w' => (w'.cell? ⟨w.heap.size + 1 + 1 + 1 + 1 + 1, 0, none⟩ = some (.int .i64 0) ∧ w'.cell? ⟨w.heap.size + 1 + 1 + 1 + 1 + 1, 1, none⟩ = some (.int .i64 0) ∧ w'.cell? ⟨w.heap.size + 1 + 1 + 1 + 1 + 1, 2, none⟩ = some (.int .i64 3) ∧ w'.cell? ⟨w.heap.size + 1 + 1 + 1 + 1 + 1, 3, none⟩ = some (.int .i64 0) ∧ w'.cell? ⟨w.heap.size + 1 + 1 + 1 + 1 + 1, 4, none⟩ = some (.int .i64 7) ∧ w'.cell? ⟨w.heap.size + 1 + 1 + 1 + 1 + 1, 5, none⟩ = some (.int .i64 1)) ∧ (w'.cell? ⟨w.heap.size + 1 + 1 + 1 + 1 + 1 + 1 + 1 + 1, 0, none⟩ = some (.int .i64 1) ∧ w'.cell? ⟨w.heap.size + 1 + 1 + 1 + 1 + 1 + 1 + 1 + 1, 1, none⟩ = some (.int .i64 3) ∧ w'.cell? ⟨w.heap.size + 1 + 1 + 1 + 1 + 1 + 1 + 1 + 1, 2, none⟩ = some (.int .i64 3) ∧ w'.cell? ⟨w.heap.size + 1 + 1 + 1 + 1 + 1 + 1 + 1 + 1, 3, none⟩ = some (.int .i64 0) ∧ w'.cell? ⟨w.heap.size + 1 + 1 + 1 + 1 + 1 + 1 + 1 + 1, 4, none⟩ = some (.int .i64 7) ∧ w'.cell? ⟨w.heap.size + 1 + 1 + 1 + 1 + 1 + 1 + 1 + 1, 5, none⟩ = some (.int .i64 1))) (first | exact kf | exact kg | (refine ⟨Blk.six (t := 140) ?_, Blk.six (t := 140) ?_⟩; (focus (repeat (first | (with_reducible refine Blk.drew ?_) | ((with_reducible refine Blk.new' _ _ _ _ ?_); (focus ((first | rfl | (simp only [World.size_alloc]; done) | (simp only [World.size_alloc, World.size_drew]; done))))) | (with_reducible refine Blk.alloc ?_ _)))); (focus (repeat (first | (with_reducible refine Blk.drew ?_) | ((with_reducible refine Blk.new' _ _ _ _ ?_); (focus ((first | rfl | (simp only [World.size_alloc]; done) | (simp only [World.size_alloc, World.size_drew]; done))))) | (with_reducible refine Blk.alloc ?_ _))))))
  (first | (go_at_call 83; refine (imm_c _ _ _ _ _ _).mono ?_; rintro e w' ⟨rfl, rfl⟩))
  go_wp2_with fail
  try simp only [Exit.inBlock, Exit.then]
  refine bodyPost_ret (v := .tuple #[.agg #[.int .i64 31, .int .u16 26624, .slice (some ⟨w.heap.size + 1 + 1 + 1 + 1 + 1 + 1 + 1 + 1 + 1 + 1 + 1 + 1, 0, none⟩) 3 3], .bool true]) (by rw [results_cell_tmp rfl]; go_simp) rfl ?_
  exact ⟨_, rfl, (Blk.new' _ _ _ _ (by simp)), by (repeat (first | exact Below.refl _ _ | refine belowD ?_ | refine Below.alloc ?_ (by first | omega | (simp; done) | (simp; omega)) _))⟩
set_option maxHeartbeats 2000000 in
set_option maxRecDepth 100000 in
theorem find_34 (w : World) : Calls Try.prog 72 #[.int .i64 34] w (FoundAt w 34 28672 #[.int .i64 0, .int .i64 0, .int .i64 3, .int .i64 0, .int .i64 7, .int .i64 1, .int .i64 1, .int .i64 3, .int .i64 3, .int .i64 0, .int .i64 7, .int .i64 1, .int .i64 3, .int .i64 6, .int .i64 5, .int .i64 0, .int .i64 31, .int .i64 1] 3) := by
  go_enter Try.func72, Try.ntmps72
  go_wp2_with fail
  refine (reg_c _ _ _).mono ?_
  rintro e w' ⟨rfl, rfl⟩
  go_wp2_with fail
  refine (reg_c _ _ _).mono ?_
  rintro e w' ⟨rfl, rfl⟩
  go_wp2_with fail
  refine (reg_c _ _ _).mono ?_
  rintro e w' ⟨rfl, rfl⟩
  go_wp2_with fail
  refine (reg_c _ _ _).mono ?_
  rintro e w' ⟨rfl, rfl⟩
  go_wp2_with fail
  refine (reg_c _ _ _).mono ?_
  rintro e w' ⟨rfl, rfl⟩
  have k0 : Blk (((((((((((w.alloc (.cells #[.int .i64 0, .int .u16 0, .slice none 0 0] 123)).alloc (.cells #[.int .i64 0, .int .i64 0, .int .i64 3, .int .i64 0, .int .i64 7, .int .i64 1] 140)).alloc (.cells #[.int .i64 2, .int .i64 3, .int .i64 3, .int .i64 0, .int .i64 7, .int .i64 1] 140)).alloc (.cells #[.int .i64 0, .int .i64 8, .int .i64 3, .int .i64 0, .int .i64 7, .int .i64 1] 140)).alloc (.cells #[.int .i64 1, .int .i64 3, .int .i64 3, .int .i64 0, .int .i64 7, .int .i64 1] 140)).alloc (.cells #[.int .i64 0, .int .i64 0, .int .i64 3, .int .i64 0, .int .i64 7, .int .i64 1] 140)).alloc (.cells #[.int .i64 2, .int .i64 3, .int .i64 3, .int .i64 0, .int .i64 7, .int .i64 1] 140)).alloc (.cells #[.int .i64 0, .int .i64 8, .int .i64 3, .int .i64 0, .int .i64 7, .int .i64 1] 140)).alloc (.cells #[.int .i64 1, .int .i64 3, .int .i64 3, .int .i64 0, .int .i64 7, .int .i64 1] 140)).alloc (.cells #[.int .i64 2, .int .i64 6, .int .i64 3, .int .i64 0, .int .i64 7, .int .i64 1] 140)).alloc (.cells #[.int .i64 2, .int .i64 6, .int .i64 3, .int .i64 0, .int .i64 7, .int .i64 1] 140)).drew (w.heap.size + 1 + 1 + 1 + 1 + 1) 140 #[.int .i64 0, .int .i64 0, .int .i64 3, .int .i64 0, .int .i64 7, .int .i64 1] := ((Blk.alloc (Blk.alloc (Blk.alloc (Blk.alloc (Blk.alloc (Blk.new' _ _ _ _ (by simp only [World.size_alloc])) _) _) _) _) _)).drew
  have k1 : Blk (((((((((((w.alloc (.cells #[.int .i64 0, .int .u16 0, .slice none 0 0] 123)).alloc (.cells #[.int .i64 0, .int .i64 0, .int .i64 3, .int .i64 0, .int .i64 7, .int .i64 1] 140)).alloc (.cells #[.int .i64 2, .int .i64 3, .int .i64 3, .int .i64 0, .int .i64 7, .int .i64 1] 140)).alloc (.cells #[.int .i64 0, .int .i64 8, .int .i64 3, .int .i64 0, .int .i64 7, .int .i64 1] 140)).alloc (.cells #[.int .i64 1, .int .i64 3, .int .i64 3, .int .i64 0, .int .i64 7, .int .i64 1] 140)).alloc (.cells #[.int .i64 0, .int .i64 0, .int .i64 3, .int .i64 0, .int .i64 7, .int .i64 1] 140)).alloc (.cells #[.int .i64 2, .int .i64 3, .int .i64 3, .int .i64 0, .int .i64 7, .int .i64 1] 140)).alloc (.cells #[.int .i64 0, .int .i64 8, .int .i64 3, .int .i64 0, .int .i64 7, .int .i64 1] 140)).alloc (.cells #[.int .i64 1, .int .i64 3, .int .i64 3, .int .i64 0, .int .i64 7, .int .i64 1] 140)).alloc (.cells #[.int .i64 2, .int .i64 6, .int .i64 3, .int .i64 0, .int .i64 7, .int .i64 1] 140)).alloc (.cells #[.int .i64 2, .int .i64 6, .int .i64 3, .int .i64 0, .int .i64 7, .int .i64 1] 140)).drew (w.heap.size + 1 + 1 + 1 + 1 + 1 + 1 + 1 + 1) 140 #[.int .i64 1, .int .i64 3, .int .i64 3, .int .i64 0, .int .i64 7, .int .i64 1] := ((Blk.alloc (Blk.alloc (Blk.new' _ _ _ _ (by simp only [World.size_alloc])) _) _)).drew
  have kf := And.intro (Blk.six k0) (Blk.six k1)
  have kg := And.intro (Blk.six (k0.alloc (.cells #[.int .i64 3, .int .i64 6, .int .i64 5, .int .i64 0, .int .i64 31, .int .i64 1] 140))) (Blk.six (k1.alloc (.cells #[.int .i64 3, .int .i64 6, .int .i64 5, .int .i64 0, .int .i64 31, .int .i64 1] 140)))
  clear k0 k1
  go_wp2_with fail
  go_region_held3 (fun w' => (w'.cell? ⟨w.heap.size + 1 + 1 + 1 + 1 + 1, 0, none⟩ = some (.int .i64 0) ∧ w'.cell? ⟨w.heap.size + 1 + 1 + 1 + 1 + 1, 1, none⟩ = some (.int .i64 0) ∧ w'.cell? ⟨w.heap.size + 1 + 1 + 1 + 1 + 1, 2, none⟩ = some (.int .i64 3) ∧ w'.cell? ⟨w.heap.size + 1 + 1 + 1 + 1 + 1, 3, none⟩ = some (.int .i64 0) ∧ w'.cell? ⟨w.heap.size + 1 + 1 + 1 + 1 + 1, 4, none⟩ = some (.int .i64 7) ∧ w'.cell? ⟨w.heap.size + 1 + 1 + 1 + 1 + 1, 5, none⟩ = some (.int .i64 1)) ∧ (w'.cell? ⟨w.heap.size + 1 + 1 + 1 + 1 + 1 + 1 + 1 + 1, 0, none⟩ = some (.int .i64 1) ∧ w'.cell? ⟨w.heap.size + 1 + 1 + 1 + 1 + 1 + 1 + 1 + 1, 1, none⟩ = some (.int .i64 3) ∧ w'.cell? ⟨w.heap.size + 1 + 1 + 1 + 1 + 1 + 1 + 1 + 1, 2, none⟩ = some (.int .i64 3) ∧ w'.cell? ⟨w.heap.size + 1 + 1 + 1 + 1 + 1 + 1 + 1 + 1, 3, none⟩ = some (.int .i64 0) ∧ w'.cell? ⟨w.heap.size + 1 + 1 + 1 + 1 + 1 + 1 + 1 + 1, 4, none⟩ = some (.int .i64 7) ∧ w'.cell? ⟨w.heap.size + 1 + 1 + 1 + 1 + 1 + 1 + 1 + 1, 5, none⟩ = some (.int .i64 1))) (first | exact kf | exact kg | (refine ⟨Blk.six (t := 140) ?_, Blk.six (t := 140) ?_⟩; (focus (repeat (first | (with_reducible refine Blk.drew ?_) | ((with_reducible refine Blk.new' _ _ _ _ ?_); (focus ((first | rfl | (simp only [World.size_alloc]; done) | (simp only [World.size_alloc, World.size_drew]; done))))) | (with_reducible refine Blk.alloc ?_ _)))); (focus (repeat (first | (with_reducible refine Blk.drew ?_) | ((with_reducible refine Blk.new' _ _ _ _ ?_); (focus ((first | rfl | (simp only [World.size_alloc]; done) | (simp only [World.size_alloc, World.size_drew]; done))))) | (with_reducible refine Blk.alloc ?_ _))))))
  (first | (go_at_call 83; refine (imm_c _ _ _ _ _ _).mono ?_; rintro e w' ⟨rfl, rfl⟩))
  go_wp2_with fail
  try simp only [Exit.inBlock, Exit.then]
  refine bodyPost_ret (v := .tuple #[.agg #[.int .i64 34, .int .u16 28672, .slice (some ⟨w.heap.size + 1 + 1 + 1 + 1 + 1 + 1 + 1 + 1 + 1 + 1 + 1 + 1, 0, none⟩) 3 3], .bool true]) (by rw [results_cell_tmp rfl]; go_simp) rfl ?_
  exact ⟨_, rfl, (Blk.new' _ _ _ _ (by simp)), by (repeat (first | exact Below.refl _ _ | refine belowD ?_ | refine Below.alloc ?_ (by first | omega | (simp; done) | (simp; omega)) _))⟩
set_option maxHeartbeats 2000000 in
set_option maxRecDepth 100000 in
theorem find_33 (w : World) : Calls Try.prog 72 #[.int .i64 33] w (FoundAt w 33 30720 #[.int .i64 0, .int .i64 0, .int .i64 3, .int .i64 0, .int .i64 7, .int .i64 1, .int .i64 1, .int .i64 3, .int .i64 3, .int .i64 0, .int .i64 7, .int .i64 1, .int .i64 3, .int .i64 6, .int .i64 5, .int .i64 0, .int .i64 31, .int .i64 1] 3) := by
  go_enter Try.func72, Try.ntmps72
  go_wp2_with fail
  refine (reg_c _ _ _).mono ?_
  rintro e w' ⟨rfl, rfl⟩
  go_wp2_with fail
  refine (reg_c _ _ _).mono ?_
  rintro e w' ⟨rfl, rfl⟩
  go_wp2_with fail
  refine (reg_c _ _ _).mono ?_
  rintro e w' ⟨rfl, rfl⟩
  go_wp2_with fail
  refine (reg_c _ _ _).mono ?_
  rintro e w' ⟨rfl, rfl⟩
  go_wp2_with fail
  refine (reg_c _ _ _).mono ?_
  rintro e w' ⟨rfl, rfl⟩
  have k0 : Blk (((((((((((w.alloc (.cells #[.int .i64 0, .int .u16 0, .slice none 0 0] 123)).alloc (.cells #[.int .i64 0, .int .i64 0, .int .i64 3, .int .i64 0, .int .i64 7, .int .i64 1] 140)).alloc (.cells #[.int .i64 2, .int .i64 3, .int .i64 3, .int .i64 0, .int .i64 7, .int .i64 1] 140)).alloc (.cells #[.int .i64 0, .int .i64 8, .int .i64 3, .int .i64 0, .int .i64 7, .int .i64 1] 140)).alloc (.cells #[.int .i64 1, .int .i64 3, .int .i64 3, .int .i64 0, .int .i64 7, .int .i64 1] 140)).alloc (.cells #[.int .i64 0, .int .i64 0, .int .i64 3, .int .i64 0, .int .i64 7, .int .i64 1] 140)).alloc (.cells #[.int .i64 2, .int .i64 3, .int .i64 3, .int .i64 0, .int .i64 7, .int .i64 1] 140)).alloc (.cells #[.int .i64 0, .int .i64 8, .int .i64 3, .int .i64 0, .int .i64 7, .int .i64 1] 140)).alloc (.cells #[.int .i64 1, .int .i64 3, .int .i64 3, .int .i64 0, .int .i64 7, .int .i64 1] 140)).alloc (.cells #[.int .i64 2, .int .i64 6, .int .i64 3, .int .i64 0, .int .i64 7, .int .i64 1] 140)).alloc (.cells #[.int .i64 2, .int .i64 6, .int .i64 3, .int .i64 0, .int .i64 7, .int .i64 1] 140)).drew (w.heap.size + 1 + 1 + 1 + 1 + 1) 140 #[.int .i64 0, .int .i64 0, .int .i64 3, .int .i64 0, .int .i64 7, .int .i64 1] := ((Blk.alloc (Blk.alloc (Blk.alloc (Blk.alloc (Blk.alloc (Blk.new' _ _ _ _ (by simp only [World.size_alloc])) _) _) _) _) _)).drew
  have k1 : Blk (((((((((((w.alloc (.cells #[.int .i64 0, .int .u16 0, .slice none 0 0] 123)).alloc (.cells #[.int .i64 0, .int .i64 0, .int .i64 3, .int .i64 0, .int .i64 7, .int .i64 1] 140)).alloc (.cells #[.int .i64 2, .int .i64 3, .int .i64 3, .int .i64 0, .int .i64 7, .int .i64 1] 140)).alloc (.cells #[.int .i64 0, .int .i64 8, .int .i64 3, .int .i64 0, .int .i64 7, .int .i64 1] 140)).alloc (.cells #[.int .i64 1, .int .i64 3, .int .i64 3, .int .i64 0, .int .i64 7, .int .i64 1] 140)).alloc (.cells #[.int .i64 0, .int .i64 0, .int .i64 3, .int .i64 0, .int .i64 7, .int .i64 1] 140)).alloc (.cells #[.int .i64 2, .int .i64 3, .int .i64 3, .int .i64 0, .int .i64 7, .int .i64 1] 140)).alloc (.cells #[.int .i64 0, .int .i64 8, .int .i64 3, .int .i64 0, .int .i64 7, .int .i64 1] 140)).alloc (.cells #[.int .i64 1, .int .i64 3, .int .i64 3, .int .i64 0, .int .i64 7, .int .i64 1] 140)).alloc (.cells #[.int .i64 2, .int .i64 6, .int .i64 3, .int .i64 0, .int .i64 7, .int .i64 1] 140)).alloc (.cells #[.int .i64 2, .int .i64 6, .int .i64 3, .int .i64 0, .int .i64 7, .int .i64 1] 140)).drew (w.heap.size + 1 + 1 + 1 + 1 + 1 + 1 + 1 + 1) 140 #[.int .i64 1, .int .i64 3, .int .i64 3, .int .i64 0, .int .i64 7, .int .i64 1] := ((Blk.alloc (Blk.alloc (Blk.new' _ _ _ _ (by simp only [World.size_alloc])) _) _)).drew
  have kf := And.intro (Blk.six k0) (Blk.six k1)
  have kg := And.intro (Blk.six (k0.alloc (.cells #[.int .i64 3, .int .i64 6, .int .i64 5, .int .i64 0, .int .i64 31, .int .i64 1] 140))) (Blk.six (k1.alloc (.cells #[.int .i64 3, .int .i64 6, .int .i64 5, .int .i64 0, .int .i64 31, .int .i64 1] 140)))
  clear k0 k1
  go_wp2_with fail
  go_region_held3 (fun w' => (w'.cell? ⟨w.heap.size + 1 + 1 + 1 + 1 + 1, 0, none⟩ = some (.int .i64 0) ∧ w'.cell? ⟨w.heap.size + 1 + 1 + 1 + 1 + 1, 1, none⟩ = some (.int .i64 0) ∧ w'.cell? ⟨w.heap.size + 1 + 1 + 1 + 1 + 1, 2, none⟩ = some (.int .i64 3) ∧ w'.cell? ⟨w.heap.size + 1 + 1 + 1 + 1 + 1, 3, none⟩ = some (.int .i64 0) ∧ w'.cell? ⟨w.heap.size + 1 + 1 + 1 + 1 + 1, 4, none⟩ = some (.int .i64 7) ∧ w'.cell? ⟨w.heap.size + 1 + 1 + 1 + 1 + 1, 5, none⟩ = some (.int .i64 1)) ∧ (w'.cell? ⟨w.heap.size + 1 + 1 + 1 + 1 + 1 + 1 + 1 + 1, 0, none⟩ = some (.int .i64 1) ∧ w'.cell? ⟨w.heap.size + 1 + 1 + 1 + 1 + 1 + 1 + 1 + 1, 1, none⟩ = some (.int .i64 3) ∧ w'.cell? ⟨w.heap.size + 1 + 1 + 1 + 1 + 1 + 1 + 1 + 1, 2, none⟩ = some (.int .i64 3) ∧ w'.cell? ⟨w.heap.size + 1 + 1 + 1 + 1 + 1 + 1 + 1 + 1, 3, none⟩ = some (.int .i64 0) ∧ w'.cell? ⟨w.heap.size + 1 + 1 + 1 + 1 + 1 + 1 + 1 + 1, 4, none⟩ = some (.int .i64 7) ∧ w'.cell? ⟨w.heap.size + 1 + 1 + 1 + 1 + 1 + 1 + 1 + 1, 5, none⟩ = some (.int .i64 1))) (first | exact kf | exact kg | (refine ⟨Blk.six (t := 140) ?_, Blk.six (t := 140) ?_⟩; (focus (repeat (first | (with_reducible refine Blk.drew ?_) | ((with_reducible refine Blk.new' _ _ _ _ ?_); (focus ((first | rfl | (simp only [World.size_alloc]; done) | (simp only [World.size_alloc, World.size_drew]; done))))) | (with_reducible refine Blk.alloc ?_ _)))); (focus (repeat (first | (with_reducible refine Blk.drew ?_) | ((with_reducible refine Blk.new' _ _ _ _ ?_); (focus ((first | rfl | (simp only [World.size_alloc]; done) | (simp only [World.size_alloc, World.size_drew]; done))))) | (with_reducible refine Blk.alloc ?_ _))))))
  (first | (go_at_call 83; refine (imm_c _ _ _ _ _ _).mono ?_; rintro e w' ⟨rfl, rfl⟩))
  go_wp2_with fail
  try simp only [Exit.inBlock, Exit.then]
  refine bodyPost_ret (v := .tuple #[.agg #[.int .i64 33, .int .u16 30720, .slice (some ⟨w.heap.size + 1 + 1 + 1 + 1 + 1 + 1 + 1 + 1 + 1 + 1 + 1 + 1, 0, none⟩) 3 3], .bool true]) (by rw [results_cell_tmp rfl]; go_simp) rfl ?_
  exact ⟨_, rfl, (Blk.new' _ _ _ _ (by simp)), by (repeat (first | exact Below.refl _ _ | refine belowD ?_ | refine Below.alloc ?_ (by first | omega | (simp; done) | (simp; omega)) _))⟩
set_option maxHeartbeats 2000000 in
set_option maxRecDepth 100000 in
theorem find_4 (w : World) : Calls Try.prog 72 #[.int .i64 4] w (FoundAt w 4 6144 #[.int .i64 0, .int .i64 0, .int .i64 3, .int .i64 0, .int .i64 7, .int .i64 1, .int .i64 1, .int .i64 3, .int .i64 3, .int .i64 0, .int .i64 7, .int .i64 1, .int .i64 2, .int .i64 6, .int .i64 3, .int .i64 0, .int .i64 7, .int .i64 1] 3) := by
  go_enter Try.func72, Try.ntmps72
  go_wp2_with fail
  refine (reg_c _ _ _).mono ?_
  rintro e w' ⟨rfl, rfl⟩
  go_wp2_with fail
  refine (reg_c _ _ _).mono ?_
  rintro e w' ⟨rfl, rfl⟩
  go_wp2_with fail
  refine (reg_c _ _ _).mono ?_
  rintro e w' ⟨rfl, rfl⟩
  go_wp2_with fail
  refine (reg_c _ _ _).mono ?_
  rintro e w' ⟨rfl, rfl⟩
  go_wp2_with fail
  refine (reg_c _ _ _).mono ?_
  rintro e w' ⟨rfl, rfl⟩
  go_wp2_with fail
  try simp only [Exit.inBlock, Exit.then]
  refine bodyPost_ret (v := .tuple #[.agg #[.int .i64 4, .int .u16 6144, .slice (some ⟨w.heap.size + 1 + 1 + 1 + 1 + 1 + 1 + 1 + 1 + 1 + 1 + 1, 0, none⟩) 3 3], .bool true]) (by rw [results_cell_tmp rfl]; go_simp) rfl ?_
  exact ⟨_, rfl, (Blk.new' _ _ _ _ (by simp)), by (repeat (first | exact Below.refl _ _ | refine belowD ?_ | refine Below.alloc ?_ (by first | omega | (simp; done) | (simp; omega)) _))⟩
end Go.Proofs.Ytpihjhfaeloapaa
