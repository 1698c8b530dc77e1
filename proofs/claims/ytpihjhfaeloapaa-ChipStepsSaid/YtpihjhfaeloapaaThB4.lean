/- thumb.find, one theorem for each number of an instruction. -/
import Derived.Test.YtpihjhfaeloapaaVc
namespace Go.Proofs.Ytpihjhfaeloapaa
open Go.RowKit On Th
set_option maxHeartbeats 2000000 in
set_option maxRecDepth 100000 in
theorem find_5 (w : World) : Calls Try.prog 72 #[.int .i64 5] w (FoundAt w 5 6656 #[.int .i64 0, .int .i64 0, .int .i64 3, .int .i64 0, .int .i64 7, .int .i64 1, .int .i64 1, .int .i64 3, .int .i64 3, .int .i64 0, .int .i64 7, .int .i64 1, .int .i64 2, .int .i64 6, .int .i64 3, .int .i64 0, .int .i64 7, .int .i64 1] 3) := by
  go_enter Try.func72, Try.ntmps72
  go_wp2_with fail
  refine (reg_c _ _ _).mono ?_
  rintro e w' ⟨rfl, rfl⟩
  go_wp2_with fail
  refine (reg_c _ _ _).mono ?_
  rintro e w' ⟨rfl, rfl⟩
  go_wp2_with fail
  refine (reg_c _ _ _).mono ?_
  rintro e w' ⟨rfl, rfl⟩
  go_wp2_with fail
  refine (reg_c _ _ _).mono ?_
  rintro e w' ⟨rfl, rfl⟩
  go_wp2_with fail
  refine (reg_c _ _ _).mono ?_
  rintro e w' ⟨rfl, rfl⟩
  go_wp2_with fail
  try simp only [Exit.inBlock, Exit.then]
  refine bodyPost_ret (v := .tuple #[.agg #[.int .i64 5, .int .u16 6656, .slice (some ⟨w.heap.size + 1 + 1 + 1 + 1 + 1 + 1 + 1 + 1 + 1 + 1 + 1, 0, none⟩) 3 3], .bool true]) (by rw [results_cell_tmp rfl]; go_simp) rfl ?_
  exact ⟨_, rfl, (Blk.new' _ _ _ _ (by simp)), by (repeat (first | exact Below.refl _ _ | refine belowD ?_ | refine Below.alloc ?_ (by first | omega | (simp; done) | (simp; omega)) _))⟩
set_option maxHeartbeats 2000000 in
set_option maxRecDepth 100000 in
theorem find_30 (w : World) : Calls Try.prog 72 #[.int .i64 30] w (FoundAt w 30 20480 #[.int .i64 0, .int .i64 0, .int .i64 3, .int .i64 0, .int .i64 7, .int .i64 1, .int .i64 1, .int .i64 3, .int .i64 3, .int .i64 0, .int .i64 7, .int .i64 1, .int .i64 2, .int .i64 6, .int .i64 3, .int .i64 0, .int .i64 7, .int .i64 1] 3) := by
  go_enter Try.func72, Try.ntmps72
  go_wp2_with fail
  refine (reg_c _ _ _).mono ?_
  rintro e w' ⟨rfl, rfl⟩
  go_wp2_with fail
  refine (reg_c _ _ _).mono ?_
  rintro e w' ⟨rfl, rfl⟩
  go_wp2_with fail
  refine (reg_c _ _ _).mono ?_
  rintro e w' ⟨rfl, rfl⟩
  go_wp2_with fail
  refine (reg_c _ _ _).mono ?_
  rintro e w' ⟨rfl, rfl⟩
  go_wp2_with fail
  refine (reg_c _ _ _).mono ?_
  rintro e w' ⟨rfl, rfl⟩
  go_wp2_with fail
  try simp only [Exit.inBlock, Exit.then]
  refine bodyPost_ret (v := .tuple #[.agg #[.int .i64 30, .int .u16 20480, .slice (some ⟨w.heap.size + 1 + 1 + 1 + 1 + 1 + 1 + 1 + 1 + 1 + 1 + 1, 0, none⟩) 3 3], .bool true]) (by rw [results_cell_tmp rfl]; go_simp) rfl ?_
  exact ⟨_, rfl, (Blk.new' _ _ _ _ (by simp)), by (repeat (first | exact Below.refl _ _ | refine belowD ?_ | refine Below.alloc ?_ (by first | omega | (simp; done) | (simp; omega)) _))⟩
set_option maxHeartbeats 2000000 in
set_option maxRecDepth 100000 in
theorem find_29 (w : World) : Calls Try.prog 72 #[.int .i64 29] w (FoundAt w 29 22528 #[.int .i64 0, .int .i64 0, .int .i64 3, .int .i64 0, .int .i64 7, .int .i64 1, .int .i64 1, .int .i64 3, .int .i64 3, .int .i64 0, .int .i64 7, .int .i64 1, .int .i64 2, .int .i64 6, .int .i64 3, .int .i64 0, .int .i64 7, .int .i64 1] 3) := by
  go_enter Try.func72, Try.ntmps72
  go_wp2_with fail
  refine (reg_c _ _ _).mono ?_
  rintro e w' ⟨rfl, rfl⟩
  go_wp2_with fail
  refine (reg_c _ _ _).mono ?_
  rintro e w' ⟨rfl, rfl⟩
  go_wp2_with fail
  refine (reg_c _ _ _).mono ?_
  rintro e w' ⟨rfl, rfl⟩
  go_wp2_with fail
  refine (reg_c _ _ _).mono ?_
  rintro e w' ⟨rfl, rfl⟩
  go_wp2_with fail
  refine (reg_c _ _ _).mono ?_
  rintro e w' ⟨rfl, rfl⟩
  go_wp2_with fail
  try simp only [Exit.inBlock, Exit.then]
  refine bodyPost_ret (v := .tuple #[.agg #[.int .i64 29, .int .u16 22528, .slice (some ⟨w.heap.size + 1 + 1 + 1 + 1 + 1 + 1 + 1 + 1 + 1 + 1 + 1, 0, none⟩) 3 3], .bool true]) (by rw [results_cell_tmp rfl]; go_simp) rfl ?_
  exact ⟨_, rfl, (Blk.new' _ _ _ _ (by simp)), by (repeat (first | exact Below.refl _ _ | refine belowD ?_ | refine Below.alloc ?_ (by first | omega | (simp; done) | (simp; omega)) _))⟩
set_option maxHeartbeats 2000000 in
set_option maxRecDepth 100000 in
theorem find_and (op : Int) (w : World) (h1 : 12 ≤ op) (h2 : op ≤ 27) : Calls Try.prog 72 #[.int .i64 op] w (FoundAt w op (16384 + (op - 12) * 64) #[.int .i64 0, .int .i64 0, .int .i64 3, .int .i64 0, .int .i64 7, .int .i64 1, .int .i64 2, .int .i64 3, .int .i64 3, .int .i64 0, .int .i64 7, .int .i64 1] 2) := by
  have q1 : IntKind.i64.wrap (op - 12) = op - 12 := IntWalk.i64_in _ (by omega)
  have q2 : IntKind.u16.wrap (op - 12) = op - 12 := IntWalk.u16_in _ (by omega)
  have q3 : IntKind.u16.wrap ((op - 12) * 2 ^ 6) = (op - 12) * 64 := IntWalk.u16_in _ (by omega)
  have q4 : IntKind.u16.wrap (16384 + (op - 12) * 64) = 16384 + (op - 12) * 64 := IntWalk.u16_in _ (by omega)
  go_enter Try.func72, Try.ntmps72
  go_wp2_with fail
  refine (reg_c _ _ _).mono ?_
  rintro e w' ⟨rfl, rfl⟩
  go_wp2_with fail
  refine (reg_c _ _ _).mono ?_
  rintro e w' ⟨rfl, rfl⟩
  go_wp2_with fail
  refine (reg_c _ _ _).mono ?_
  rintro e w' ⟨rfl, rfl⟩
  go_wp2_with fail
  refine (reg_c _ _ _).mono ?_
  rintro e w' ⟨rfl, rfl⟩
  go_wp2_with fail
  refine (reg_c _ _ _).mono ?_
  rintro e w' ⟨rfl, rfl⟩
  go_wp2_with fail
  try simp only [Exit.inBlock, Exit.then]
  refine bodyPost_ret (v := .tuple #[.agg #[.int .i64 op, .int .u16 (16384 + (op - 12) * 64), .slice (some ⟨w.heap.size + 1 + 1 + 1 + 1 + 1 + 1 + 1 + 1 + 1 + 1 + 1, 0, none⟩) 2 2], .bool true]) (by rw [results_cell_tmp rfl]; go_simp) rfl ?_
  exact ⟨_, rfl, (Blk.new' _ _ _ _ (by simp)), by (repeat (first | exact Below.refl _ _ | refine belowD ?_ | refine Below.alloc ?_ (by first | omega | (simp; done) | (simp; omega)) _))⟩
set_option maxHeartbeats 4000000 in
set_option maxRecDepth 100000 in
theorem find_mov (op : Int) (w : World) (h1 : 8 ≤ op) (h2 : op ≤ 11) : Calls Try.prog 72 #[.int .i64 op] w (FoundAt w op (8192 + (op - 8) * 2048) #[.int .i64 0, .int .i64 8, .int .i64 3, .int .i64 0, .int .i64 7, .int .i64 1, .int .i64 3, .int .i64 0, .int .i64 8, .int .i64 0, .int .i64 255, .int .i64 1] 2) := by
  have q1 : IntKind.i64.wrap (op - 8) = op - 8 := IntWalk.i64_in _ (by omega)
  have q2 : IntKind.u16.wrap (op - 8) = op - 8 := IntWalk.u16_in _ (by omega)
  have q3 : IntKind.u16.wrap ((op - 8) * 2048) = (op - 8) * 2048 := IntWalk.u16_in _ (by omega)
  have q4 : IntKind.u16.wrap (8192 + (op - 8) * 2048) = 8192 + (op - 8) * 2048 := IntWalk.u16_in _ (by omega)
  have h12 : ¬ (12 ≤ op) := by omega
  go_enter Try.func72, Try.ntmps72
  go_wp2_with fail
  refine (reg_c _ _ _).mono ?_
  rintro e w' ⟨rfl, rfl⟩
  go_wp2_with fail
  refine (reg_c _ _ _).mono ?_
  rintro e w' ⟨rfl, rfl⟩
  go_wp2_with fail
  refine (reg_c _ _ _).mono ?_
  rintro e w' ⟨rfl, rfl⟩
  go_wp2_with fail
  refine (reg_c _ _ _).mono ?_
  rintro e w' ⟨rfl, rfl⟩
  go_wp2_with fail
  refine (reg_c _ _ _).mono ?_
  rintro e w' ⟨rfl, rfl⟩
  have k0 : Blk (((((((((((w.alloc (.cells #[.int .i64 0, .int .u16 0, .slice none 0 0] 123)).alloc (.cells #[.int .i64 0, .int .i64 0, .int .i64 3, .int .i64 0, .int .i64 7, .int .i64 1] 140)).alloc (.cells #[.int .i64 2, .int .i64 3, .int .i64 3, .int .i64 0, .int .i64 7, .int .i64 1] 140)).alloc (.cells #[.int .i64 0, .int .i64 8, .int .i64 3, .int .i64 0, .int .i64 7, .int .i64 1] 140)).alloc (.cells #[.int .i64 1, .int .i64 3, .int .i64 3, .int .i64 0, .int .i64 7, .int .i64 1] 140)).alloc (.cells #[.int .i64 0, .int .i64 0, .int .i64 3, .int .i64 0, .int .i64 7, .int .i64 1] 140)).alloc (.cells #[.int .i64 2, .int .i64 3, .int .i64 3, .int .i64 0, .int .i64 7, .int .i64 1] 140)).alloc (.cells #[.int .i64 0, .int .i64 8, .int .i64 3, .int .i64 0, .int .i64 7, .int .i64 1] 140)).alloc (.cells #[.int .i64 1, .int .i64 3, .int .i64 3, .int .i64 0, .int .i64 7, .int .i64 1] 140)).alloc (.cells #[.int .i64 2, .int .i64 6, .int .i64 3, .int .i64 0, .int .i64 7, .int .i64 1] 140)).alloc (.cells #[.int .i64 2, .int .i64 6, .int .i64 3, .int .i64 0, .int .i64 7, .int .i64 1] 140)).drew (w.heap.size + 1 + 1 + 1 + 1 + 1 + 1 + 1) 140 #[.int .i64 0, .int .i64 8, .int .i64 3, .int .i64 0, .int .i64 7, .int .i64 1] := ((Blk.alloc (Blk.alloc (Blk.alloc (Blk.new' _ _ _ _ (by simp only [World.size_alloc])) _) _) _)).drew
  have kf := Blk.six k0
  have kg := Blk.six (k0.alloc (.cells #[.int .i64 3, .int .i64 0, .int .i64 8, .int .i64 0, .int .i64 255, .int .i64 1] 140))
  clear k0
  go_wp2_with fail
  go_region_held3 (fun w' => w'.cell? ⟨w.heap.size + 1 + 1 + 1 + 1 + 1 + 1 + 1, 0, none⟩ = some (.int .i64 0) ∧ w'.cell? ⟨w.heap.size + 1 + 1 + 1 + 1 + 1 + 1 + 1, 1, none⟩ = some (.int .i64 8) ∧ w'.cell? ⟨w.heap.size + 1 + 1 + 1 + 1 + 1 + 1 + 1, 2, none⟩ = some (.int .i64 3) ∧ w'.cell? ⟨w.heap.size + 1 + 1 + 1 + 1 + 1 + 1 + 1, 3, none⟩ = some (.int .i64 0) ∧ w'.cell? ⟨w.heap.size + 1 + 1 + 1 + 1 + 1 + 1 + 1, 4, none⟩ = some (.int .i64 7) ∧ w'.cell? ⟨w.heap.size + 1 + 1 + 1 + 1 + 1 + 1 + 1, 5, none⟩ = some (.int .i64 1)) (first | exact kf | exact kg | (refine Blk.six (t := 140) ?_; (focus (repeat (first | (with_reducible refine Blk.drew ?_) | ((with_reducible refine Blk.new' _ _ _ _ ?_); (focus ((first | rfl | (simp only [World.size_alloc]; done) | (simp only [World.size_alloc, World.size_drew]; done))))) | (with_reducible refine Blk.alloc ?_ _))))))
    (first | (go_at_call 83; refine (imm_c _ _ _ _ _ _).mono ?_; rintro e w' ⟨rfl, rfl⟩))
  go_wp2_with fail
  try simp only [Exit.inBlock, Exit.then]
  refine bodyPost_ret (v := .tuple #[.agg #[.int .i64 op, .int .u16 (8192 + (op - 8) * 2048), .slice (some ⟨w.heap.size + 1 + 1 + 1 + 1 + 1 + 1 + 1 + 1 + 1 + 1 + 1 + 1, 0, none⟩) 2 2], .bool true]) (by rw [results_cell_tmp rfl]; go_simp) rfl ?_
  exact ⟨_, rfl, (Blk.new' _ _ _ _ (by simp)), by (repeat (first | exact Below.refl _ _ | refine belowD ?_ | refine Below.alloc ?_ (by first | omega | (simp; done) | (simp; omega)) _))⟩
end Go.Proofs.Ytpihjhfaeloapaa
