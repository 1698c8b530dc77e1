/- thumb.reg, imm, find, later. -/
import Derived.Test.YtpihjhfaeloapaaTh
import Derived.Test.YtpihjhfaeloapaaRows
import Derived.Deep.RegionHeld3
import Derived.Laws.ResultCell
import Derived.Lib.Hide
import Derived.WalkSmall
namespace Go.Proofs.Ytpihjhfaeloapaa
open Go.RowKit On Th
set_option maxRecDepth 100000 in
theorem belowD {B : Nat} {a w : World} (h : Below B a w) : Below B a w.drew := ⟨h.os, h.tape, h.output, h.size, h.block⟩
set_option maxRecDepth 100000 in
theorem reg_c (p s : Int) (w : World) : Calls Try.prog 82 #[.int .i64 p, .int .i64 s] w fun e w' => e = .returned (.agg #[.int .i64 p, .int .i64 s, .int .i64 3, .int .i64 0, .int .i64 7, .int .i64 1]) ∧ w' = w.alloc (.cells #[.int .i64 p, .int .i64 s, .int .i64 3, .int .i64 0, .int .i64 7, .int .i64 1] 140) := by
  go_enter Try.func82, Try.ntmps82
  go_wp2
  try simp only [Exit.inBlock, Exit.then]
  refine bodyPost_ret (results_cell_row rfl _ _ w.heap.size 140 #[.int .i64 p, .int .i64 s, .int .i64 3, .int .i64 0, .int .i64 7, .int .i64 1] (0, 0) _ (by rfl) (heap_alloc_new _ _) Try.underlying140 rfl (by rfl)) rfl ?_
  exact ⟨rfl, rfl⟩
set_option maxRecDepth 100000 in
theorem imm_c (s b l m st : Int) (w : World) : Calls Try.prog 83 #[.int .i64 s, .int .i64 b, .int .i64 l, .int .i64 m, .int .i64 st] w fun e w' => e = .returned (.agg #[.int .i64 3, .int .i64 s, .int .i64 b, .int .i64 l, .int .i64 m, .int .i64 st]) ∧ w' = w.alloc (.cells #[.int .i64 3, .int .i64 s, .int .i64 b, .int .i64 l, .int .i64 m, .int .i64 st] 140) := by
  go_enter Try.func83, Try.ntmps83
  go_wp2
  try simp only [Exit.inBlock, Exit.then]
  refine bodyPost_ret (results_cell_row rfl _ _ w.heap.size 140 #[.int .i64 3, .int .i64 s, .int .i64 b, .int .i64 l, .int .i64 m, .int .i64 st] (0, 0) _ (by rfl) (heap_alloc_new _ _) Try.underlying140 rfl (by rfl)) rfl ?_
  exact ⟨rfl, rfl⟩
set_option maxRecDepth 100000 in
theorem Blk.new' (w : World) (t : TypeId) (cs : Array Value) (k : Nat) (hk : k = w.heap.size) : Blk (w.alloc (.cells cs t)) k t cs := by subst hk; exact Blk.new w t cs
set_option maxRecDepth 100000 in
theorem Blk.six {w : World} {b : Nat} {t : TypeId} {v0 v1 v2 v3 v4 v5 : Value} (h : Blk w b t #[v0, v1, v2, v3, v4, v5]) : w.cell? ⟨b, 0, none⟩ = some v0 ∧ w.cell? ⟨b, 1, none⟩ = some v1 ∧ w.cell? ⟨b, 2, none⟩ = some v2 ∧ w.cell? ⟨b, 3, none⟩ = some v3 ∧ w.cell? ⟨b, 4, none⟩ = some v4 ∧ w.cell? ⟨b, 5, none⟩ = some v5 :=
  ⟨h.cell 0, h.cell 1, h.cell 2, h.cell 3, h.cell 4, h.cell 5⟩
/-- a row with its slots in memory -/
def FoundAt (w : World) (op b : Int) (cs : Array Value) (n : Nat) (e : Ending) (w' : World) : Prop :=
  ∃ g, e = .returned (.tuple #[.agg #[.int .i64 op, .int .u16 b, .slice (some ⟨g, 0, none⟩) n n], .bool true]) ∧ Blk w' g 140 cs ∧ Below w.heap.size w w'
set_option maxHeartbeats 2000000 in
set_option maxRecDepth 100000 in
theorem later_36 (w : World) : Calls Try.prog 84 #[.int .i64 36] w (FoundAt w 36 36864 #[.int .i64 0, .int .i64 8, .int .i64 3, .int .i64 0, .int .i64 7, .int .i64 1, .int .i64 3, .int .i64 0, .int .i64 8, .int .i64 0, .int .i64 1020, .int .i64 4] 2) := by
  go_enter Try.func84, Try.ntmps84
  go_wp2_with fail
  refine (reg_c _ _ _).mono ?_
  rintro e w' ⟨rfl, rfl⟩
  have k0 : Blk (((w.alloc (.cells #[.int .i64 0, .int .u16 0, .slice none 0 0] 123)).alloc (.cells #[.int .i64 0, .int .i64 8, .int .i64 3, .int .i64 0, .int .i64 7, .int .i64 1] 140)).alloc (.cells #[.int .i64 0, .int .i64 8, .int .i64 3, .int .i64 0, .int .i64 7, .int .i64 1] 140)).drew (w.heap.size + 1 + 1) 140 #[.int .i64 0, .int .i64 8, .int .i64 3, .int .i64 0, .int .i64 7, .int .i64 1] := ((Blk.new' _ _ _ _ (by simp))).drew
  have kf := Blk.six k0
  have kg := Blk.six (k0.alloc (.cells #[.int .i64 3, .int .i64 0, .int .i64 8, .int .i64 0, .int .i64 1020, .int .i64 4] 140))
  clear k0
  go_wp2_with fail
  go_region_held3 (fun w' => w'.cell? ⟨w.heap.size + 1 + 1, 0, none⟩ = some (.int .i64 0) ∧ w'.cell? ⟨w.heap.size + 1 + 1, 1, none⟩ = some (.int .i64 8) ∧ w'.cell? ⟨w.heap.size + 1 + 1, 2, none⟩ = some (.int .i64 3) ∧ w'.cell? ⟨w.heap.size + 1 + 1, 3, none⟩ = some (.int .i64 0) ∧ w'.cell? ⟨w.heap.size + 1 + 1, 4, none⟩ = some (.int .i64 7) ∧ w'.cell? ⟨w.heap.size + 1 + 1, 5, none⟩ = some (.int .i64 1)) (first | exact kf | exact kg | (refine Blk.six (t := 140) ?_; (focus (repeat (first | (with_reducible refine Blk.drew ?_) | ((with_reducible refine Blk.new' _ _ _ _ ?_); (focus ((first | rfl | (simp only [World.size_alloc]; done) | (simp only [World.size_alloc, World.size_drew]; done))))) | (with_reducible refine Blk.alloc ?_ _))))))
    (first | (go_at_call 83; refine (imm_c _ _ _ _ _ _).mono ?_; rintro e w' ⟨rfl, rfl⟩))
  go_wp2_with fail
  try simp only [Exit.inBlock, Exit.then]
  refine bodyPost_ret (v := .tuple #[.agg #[.int .i64 36, .int .u16 36864, .slice (some ⟨w.heap.size + 1 + 1 + 1 + 1, 0, none⟩) 2 2], .bool true]) (by rw [results_cell_tmp rfl]; go_simp) rfl ?_
  exact ⟨_, rfl, (Blk.new' _ _ _ _ (by simp)), by (repeat (first | exact Below.refl _ _ | refine belowD ?_ | refine Below.alloc ?_ (by first | omega | (simp; done) | (simp; omega)) _))⟩
set_option maxHeartbeats 2000000 in
set_option maxRecDepth 100000 in
theorem later_35 (w : World) : Calls Try.prog 84 #[.int .i64 35] w (FoundAt w 35 38912 #[.int .i64 0, .int .i64 8, .int .i64 3, .int .i64 0, .int .i64 7, .int .i64 1, .int .i64 3, .int .i64 0, .int .i64 8, .int .i64 0, .int .i64 1020, .int .i64 4] 2) := by
  go_enter Try.func84, Try.ntmps84
  go_wp2_with fail
  refine (reg_c _ _ _).mono ?_
  rintro e w' ⟨rfl, rfl⟩
  have k0 : Blk (((w.alloc (.cells #[.int .i64 0, .int .u16 0, .slice none 0 0] 123)).alloc (.cells #[.int .i64 0, .int .i64 8, .int .i64 3, .int .i64 0, .int .i64 7, .int .i64 1] 140)).alloc (.cells #[.int .i64 0, .int .i64 8, .int .i64 3, .int .i64 0, .int .i64 7, .int .i64 1] 140)).drew (w.heap.size + 1 + 1) 140 #[.int .i64 0, .int .i64 8, .int .i64 3, .int .i64 0, .int .i64 7, .int .i64 1] := ((Blk.new' _ _ _ _ (by simp))).drew
  have kf := Blk.six k0
  have kg := Blk.six (k0.alloc (.cells #[.int .i64 3, .int .i64 0, .int .i64 8, .int .i64 0, .int .i64 1020, .int .i64 4] 140))
  clear k0
  go_wp2_with fail
  go_region_held3 (fun w' => w'.cell? ⟨w.heap.size + 1 + 1, 0, none⟩ = some (.int .i64 0) ∧ w'.cell? ⟨w.heap.size + 1 + 1, 1, none⟩ = some (.int .i64 8) ∧ w'.cell? ⟨w.heap.size + 1 + 1, 2, none⟩ = some (.int .i64 3) ∧ w'.cell? ⟨w.heap.size + 1 + 1, 3, none⟩ = some (.int .i64 0) ∧ w'.cell? ⟨w.heap.size + 1 + 1, 4, none⟩ = some (.int .i64 7) ∧ w'.cell? ⟨w.heap.size + 1 + 1, 5, none⟩ = some (.int .i64 1)) (first | exact kf | exact kg | (refine Blk.six (t := 140) ?_; (focus (repeat (first | (with_reducible refine Blk.drew ?_) | ((with_reducible refine Blk.new' _ _ _ _ ?_); (focus ((first | rfl | (simp only [World.size_alloc]; done) | (simp only [World.size_alloc, World.size_drew]; done))))) | (with_reducible refine Blk.alloc ?_ _))))))
    (first | (go_at_call 83; refine (imm_c _ _ _ _ _ _).mono ?_; rintro e w' ⟨rfl, rfl⟩))
  go_wp2_with fail
  try simp only [Exit.inBlock, Exit.then]
  refine bodyPost_ret (v := .tuple #[.agg #[.int .i64 35, .int .u16 38912, .slice (some ⟨w.heap.size + 1 + 1 + 1 + 1, 0, none⟩) 2 2], .bool true]) (by rw [results_cell_tmp rfl]; go_simp) rfl ?_
  exact ⟨_, rfl, (Blk.new' _ _ _ _ (by simp)), by (repeat (first | exact Below.refl _ _ | refine belowD ?_ | refine Below.alloc ?_ (by first | omega | (simp; done) | (simp; omega)) _))⟩
set_option maxHeartbeats 2000000 in
set_option maxRecDepth 100000 in
theorem later_37 (w : World) : Calls Try.prog 84 #[.int .i64 37] w (FoundAt w 37 45056 #[.int .i64 3, .int .i64 0, .int .i64 7, .int .i64 0, .int .i64 508, .int .i64 4] 1) := by
  go_enter Try.func84, Try.ntmps84
  go_wp2_with fail
  refine (reg_c _ _ _).mono ?_
  rintro e w' ⟨rfl, rfl⟩
  go_wp2_with fail
  refine (imm_c _ _ _ _ _ _).mono ?_
  rintro e w' ⟨rfl, rfl⟩
  go_wp2_with fail
  try simp only [Exit.inBlock, Exit.then]
  refine bodyPost_ret (v := .tuple #[.agg #[.int .i64 37, .int .u16 45056, .slice (some ⟨w.heap.size + 1 + 1 + 1 + 1, 0, none⟩) 1 1], .bool true]) (by rw [results_cell_tmp rfl]; go_simp) rfl ?_
  exact ⟨_, rfl, (Blk.new' _ _ _ _ (by simp)), by (repeat (first | exact Below.refl _ _ | refine belowD ?_ | refine Below.alloc ?_ (by first | omega | (simp; done) | (simp; omega)) _))⟩
set_option maxHeartbeats 2000000 in
set_option maxRecDepth 100000 in
theorem later_38 (w : World) : Calls Try.prog 84 #[.int .i64 38] w (FoundAt w 38 45184 #[.int .i64 3, .int .i64 0, .int .i64 7, .int .i64 0, .int .i64 508, .int .i64 4] 1) := by
  go_enter Try.func84, Try.ntmps84
  go_wp2_with fail
  refine (reg_c _ _ _).mono ?_
  rintro e w' ⟨rfl, rfl⟩
  go_wp2_with fail
  refine (imm_c _ _ _ _ _ _).mono ?_
  rintro e w' ⟨rfl, rfl⟩
  go_wp2_with fail
  try simp only [Exit.inBlock, Exit.then]
  refine bodyPost_ret (v := .tuple #[.agg #[.int .i64 38, .int .u16 45184, .slice (some ⟨w.heap.size + 1 + 1 + 1 + 1, 0, none⟩) 1 1], .bool true]) (by rw [results_cell_tmp rfl]; go_simp) rfl ?_
  exact ⟨_, rfl, (Blk.new' _ _ _ _ (by simp)), by (repeat (first | exact Below.refl _ _ | refine belowD ?_ | refine Below.alloc ?_ (by first | omega | (simp; done) | (simp; omega)) _))⟩
set_option maxHeartbeats 2000000 in
set_option maxRecDepth 100000 in
theorem later_39 (w : World) : Calls Try.prog 84 #[.int .i64 39] w (FoundAt w 39 46080 #[.int .i64 3, .int .i64 0, .int .i64 9, .int .i64 1, .int .i64 511, .int .i64 1] 1) := by
  go_enter Try.func84, Try.ntmps84
  go_wp2_with fail
  refine (reg_c _ _ _).mono ?_
  rintro e w' ⟨rfl, rfl⟩
  go_wp2_with fail
  refine (imm_c _ _ _ _ _ _).mono ?_
  rintro e w' ⟨rfl, rfl⟩
  go_wp2_with fail
  try simp only [Exit.inBlock, Exit.then]
  refine bodyPost_ret (v := .tuple #[.agg #[.int .i64 39, .int .u16 46080, .slice (some ⟨w.heap.size + 1 + 1 + 1 + 1, 0, none⟩) 1 1], .bool true]) (by rw [results_cell_tmp rfl]; go_simp) rfl ?_
  exact ⟨_, rfl, (Blk.new' _ _ _ _ (by simp)), by (repeat (first | exact Below.refl _ _ | refine belowD ?_ | refine Below.alloc ?_ (by first | omega | (simp; done) | (simp; omega)) _))⟩
set_option maxHeartbeats 2000000 in
set_option maxRecDepth 100000 in
theorem later_40 (w : World) : Calls Try.prog 84 #[.int .i64 40] w (FoundAt w 40 48128 #[.int .i64 3, .int .i64 0, .int .i64 9, .int .i64 1, .int .i64 511, .int .i64 1] 1) := by
  go_enter Try.func84, Try.ntmps84
  go_wp2_with fail
  refine (reg_c _ _ _).mono ?_
  rintro e w' ⟨rfl, rfl⟩
  go_wp2_with fail
  refine (imm_c _ _ _ _ _ _).mono ?_
  rintro e w' ⟨rfl, rfl⟩
  go_wp2_with fail
  try simp only [Exit.inBlock, Exit.then]
  refine bodyPost_ret (v := .tuple #[.agg #[.int .i64 40, .int .u16 48128, .slice (some ⟨w.heap.size + 1 + 1 + 1 + 1, 0, none⟩) 1 1], .bool true]) (by rw [results_cell_tmp rfl]; go_simp) rfl ?_
  exact ⟨_, rfl, (Blk.new' _ _ _ _ (by simp)), by (repeat (first | exact Below.refl _ _ | refine belowD ?_ | refine Below.alloc ?_ (by first | omega | (simp; done) | (simp; omega)) _))⟩
set_option maxHeartbeats 2000000 in
set_option maxRecDepth 100000 in
theorem later_41 (w : World) : Calls Try.prog 84 #[.int .i64 41] w (FoundAt w 41 53248 #[.int .i64 3, .int .i64 0, .int .i64 8, .int .i64 (-256), .int .i64 254, .int .i64 2, .int .i64 4, .int .i64 8, .int .i64 4, .int .i64 0, .int .i64 13, .int .i64 1] 2) := by
  go_enter Try.func84, Try.ntmps84
  go_wp2_with fail
  refine (reg_c _ _ _).mono ?_
  rintro e w' ⟨rfl, rfl⟩
  go_wp2_with fail
  refine (imm_c _ _ _ _ _ _).mono ?_
  rintro e w' ⟨rfl, rfl⟩
  go_wp2_with fail
  try simp only [Exit.inBlock, Exit.then]
  refine bodyPost_ret (v := .tuple #[.agg #[.int .i64 41, .int .u16 53248, .slice (some ⟨w.heap.size + 1 + 1 + 1 + 1, 0, none⟩) 2 2], .bool true]) (by rw [results_cell_tmp rfl]; go_simp) rfl ?_
  exact ⟨_, rfl, (Blk.new' _ _ _ _ (by simp)), by (repeat (first | exact Below.refl _ _ | refine belowD ?_ | refine Below.alloc ?_ (by first | omega | (simp; done) | (simp; omega)) _))⟩
set_option maxHeartbeats 2000000 in
set_option maxRecDepth 100000 in
theorem later_42 (w : World) : Calls Try.prog 84 #[.int .i64 42] w (FoundAt w 42 57344 #[.int .i64 3, .int .i64 0, .int .i64 11, .int .i64 (-2048), .int .i64 2046, .int .i64 2] 1) := by
  go_enter Try.func84, Try.ntmps84
  go_wp2_with fail
  refine (reg_c _ _ _).mono ?_
  rintro e w' ⟨rfl, rfl⟩
  go_wp2_with fail
  refine (imm_c _ _ _ _ _ _).mono ?_
  rintro e w' ⟨rfl, rfl⟩
  go_wp2_with fail
  try simp only [Exit.inBlock, Exit.then]
  refine bodyPost_ret (v := .tuple #[.agg #[.int .i64 42, .int .u16 57344, .slice (some ⟨w.heap.size + 1 + 1 + 1 + 1, 0, none⟩) 1 1], .bool true]) (by rw [results_cell_tmp rfl]; go_simp) rfl ?_
  exact ⟨_, rfl, (Blk.new' _ _ _ _ (by simp)), by (repeat (first | exact Below.refl _ _ | refine belowD ?_ | refine Below.alloc ?_ (by first | omega | (simp; done) | (simp; omega)) _))⟩
set_option maxHeartbeats 2000000 in
set_option maxRecDepth 100000 in
theorem later_44 (w : World) : Calls Try.prog 84 #[.int .i64 44] w (FoundAt w 44 57088 #[.int .i64 3, .int .i64 0, .int .i64 8, .int .i64 0, .int .i64 255, .int .i64 1] 1) := by
  go_enter Try.func84, Try.ntmps84
  go_wp2_with fail
  refine (reg_c _ _ _).mono ?_
  rintro e w' ⟨rfl, rfl⟩
  go_wp2_with fail
  refine (imm_c _ _ _ _ _ _).mono ?_
  rintro e w' ⟨rfl, rfl⟩
  go_wp2_with fail
  try simp only [Exit.inBlock, Exit.then]
  refine bodyPost_ret (v := .tuple #[.agg #[.int .i64 44, .int .u16 57088, .slice (some ⟨w.heap.size + 1 + 1 + 1 + 1, 0, none⟩) 1 1], .bool true]) (by rw [results_cell_tmp rfl]; go_simp) rfl ?_
  exact ⟨_, rfl, (Blk.new' _ _ _ _ (by simp)), by (repeat (first | exact Below.refl _ _ | refine belowD ?_ | refine Below.alloc ?_ (by first | omega | (simp; done) | (simp; omega)) _))⟩
set_option maxHeartbeats 2000000 in
set_option maxRecDepth 100000 in
theorem later_45 (w : World) : Calls Try.prog 84 #[.int .i64 45] w (fun e w' => e = .returned (.tuple #[.agg #[.int .i64 45, .int .u16 48896, .slice none 0 0], .bool true]) ∧ Below w.heap.size w w') := by
  go_enter Try.func84, Try.ntmps84
  go_wp2_with fail
  refine (reg_c _ _ _).mono ?_
  rintro e w' ⟨rfl, rfl⟩
  go_wp2_with fail
  try simp only [Exit.inBlock, Exit.then]
  refine bodyPost_ret (v := .tuple #[.agg #[.int .i64 45, .int .u16 48896, .slice none 0 0], .bool true]) (by rw [results_cell_tmp rfl]; go_simp) rfl ?_
  exact ⟨rfl, by (repeat (first | exact Below.refl _ _ | refine belowD ?_ | refine Below.alloc ?_ (by first | omega | (simp; done) | (simp; omega)) _))⟩
set_option maxRecDepth 100000 in
theorem later_none (op : Int) (w : World) (h1 : op ≠ 36) (h2 : op ≠ 35) (h3 : op ≠ 37) (h4 : op ≠ 38) (h5 : op ≠ 39) (h6 : op ≠ 40) (h7 : op ≠ 41) (h8 : op ≠ 42) (h9 : op ≠ 44) (h10 : op ≠ 45) :
    Calls Try.prog 84 #[.int .i64 op] w (fun e w' => e = .returned (.tuple #[.agg #[.int .i64 0, .int .u16 0, .slice none 0 0], .bool false]) ∧ Below w.heap.size w w') := by
  go_enter Try.func84, Try.ntmps84
  go_wp2_with fail
  refine (reg_c _ _ _).mono ?_
  rintro e w' ⟨rfl, rfl⟩
  go_wp2_with fail
  try simp only [Exit.inBlock, Exit.then]
  refine bodyPost_ret (v := .tuple #[.agg #[.int .i64 0, .int .u16 0, .slice none 0 0], .bool false]) (by rw [results_cell_tmp rfl]; go_simp) rfl ?_
  exact ⟨rfl, by (repeat (first | exact Below.refl _ _ | refine belowD ?_ | refine Below.alloc ?_ (by first | omega | (simp; done) | (simp; omega)) _))⟩
end Go.Proofs.Ytpihjhfaeloapaa
