/- MERGED by mergev.py: XThA XThC XThE XThJ. -/
import Derived.Test.YtpihjhfaeloapaaVa
import Derived.Test.YtpihjhfaeloapaaRows
import Derived.Deep.RegionHeld3
import Derived.Laws.ResultCell
import Derived.Lib.Hide
import Derived.WalkSmall
import Derived.Laws.BitsAllLaws
namespace Go.Proofs.Ytpihjhfaeloapaa
open Go.RowKit On Th
set_option maxRecDepth 100000 in
theorem belowD {B : Nat} {a w : World} (h : Below B a w) : Below B a w.drew := ⟨h.os, h.tape, h.output, h.size, h.block⟩
set_option maxRecDepth 100000 in
theorem reg_c (p s : Int) (w : World) : Calls Try.prog 82 #[.int .i64 p, .int .i64 s] w fun e w' => e = .returned (.agg #[.int .i64 p, .int .i64 s, .int .i64 3, .int .i64 0, .int .i64 7, .int .i64 1]) ∧ w' = w.alloc (.cells #[.int .i64 p, .int .i64 s, .int .i64 3, .int .i64 0, .int .i64 7, .int .i64 1] 140) := by
  go_enter Try.func82, Try.ntmps82
  go_wp2
  try simp only [Exit.inBlock, Exit.then]
  refine bodyPost_ret (results_cell_row rfl _ _ w.heap.size 140 #[.int .i64 p, .int .i64 s, .int .i64 3, .int .i64 0, .int .i64 7, .int .i64 1] (0, 0) _ (by rfl) (heap_alloc_new _ _) Try.underlying140 rfl (by rfl)) rfl ?_
  exact ⟨rfl, rfl⟩
set_option maxRecDepth 100000 in
theorem imm_c (s b l m st : Int) (w : World) : Calls Try.prog 83 #[.int .i64 s, .int .i64 b, .int .i64 l, .int .i64 m, .int .i64 st] w fun e w' => e = .returned (.agg #[.int .i64 3, .int .i64 s, .int .i64 b, .int .i64 l, .int .i64 m, .int .i64 st]) ∧ w' = w.alloc (.cells #[.int .i64 3, .int .i64 s, .int .i64 b, .int .i64 l, .int .i64 m, .int .i64 st] 140) := by
  go_enter Try.func83, Try.ntmps83
  go_wp2
  try simp only [Exit.inBlock, Exit.then]
  refine bodyPost_ret (results_cell_row rfl _ _ w.heap.size 140 #[.int .i64 3, .int .i64 s, .int .i64 b, .int .i64 l, .int .i64 m, .int .i64 st] (0, 0) _ (by rfl) (heap_alloc_new _ _) Try.underlying140 rfl (by rfl)) rfl ?_
  exact ⟨rfl, rfl⟩
set_option maxRecDepth 100000 in
theorem Blk.new' (w : World) (t : TypeId) (cs : Array Value) (k : Nat) (hk : k = w.heap.size) : Blk (w.alloc (.cells cs t)) k t cs := by subst hk; exact Blk.new w t cs
set_option maxRecDepth 100000 in
theorem Blk.six {w : World} {b : Nat} {t : TypeId} {v0 v1 v2 v3 v4 v5 : Value} (h : Blk w b t #[v0, v1, v2, v3, v4, v5]) : w.cell? ⟨b, 0, none⟩ = some v0 ∧ w.cell? ⟨b, 1, none⟩ = some v1 ∧ w.cell? ⟨b, 2, none⟩ = some v2 ∧ w.cell? ⟨b, 3, none⟩ = some v3 ∧ w.cell? ⟨b, 4, none⟩ = some v4 ∧ w.cell? ⟨b, 5, none⟩ = some v5 :=
  ⟨h.cell 0, h.cell 1, h.cell 2, h.cell 3, h.cell 4, h.cell 5⟩
/-- a row with its slots in memory -/
def FoundAt (w : World) (op b : Int) (cs : Array Value) (n : Nat) (e : Ending) (w' : World) : Prop :=
  ∃ g, e = .returned (.tuple #[.agg #[.int .i64 op, .int .u16 b, .slice (some ⟨g, 0, none⟩) n n], .bool true]) ∧ Blk w' g 140 cs ∧ Below w.heap.size w w'
set_option maxHeartbeats 2000000 in
set_option maxRecDepth 100000 in
theorem later_36 (w : World) : Calls Try.prog 84 #[.int .i64 36] w (FoundAt w 36 36864 #[.int .i64 0, .int .i64 8, .int .i64 3, .int .i64 0, .int .i64 7, .int .i64 1, .int .i64 3, .int .i64 0, .int .i64 8, .int .i64 0, .int .i64 1020, .int .i64 4] 2) := by
  go_enter Try.func84, Try.ntmps84
  go_wp2_with fail
  refine (reg_c _ _ _).mono ?_
  rintro e w' ⟨rfl, rfl⟩
  have k0 : Blk (((w.alloc (.cells #[.int .i64 0, .int .u16 0, .slice none 0 0] 123)).alloc (.cells #[.int .i64 0, .int .i64 8, .int .i64 3, .int .i64 0, .int .i64 7, .int .i64 1] 140)).alloc (.cells #[.int .i64 0, .int .i64 8, .int .i64 3, .int .i64 0, .int .i64 7, .int .i64 1] 140)).drew (w.heap.size + 1 + 1) 140 #[.int .i64 0, .int .i64 8, .int .i64 3, .int .i64 0, .int .i64 7, .int .i64 1] := ((Blk.new' _ _ _ _ (by simp))).drew
  have kf := Blk.six k0
  have kg := Blk.six (k0.alloc (.cells #[.int .i64 3, .int .i64 0, .int .i64 8, .int .i64 0, .int .i64 1020, .int .i64 4] 140))
  clear k0
  go_wp2_with fail
  go_region_held3 (fun w' => w'.cell? ⟨w.heap.size + 1 + 1, 0, none⟩ = some (.int .i64 0) ∧ w'.cell? ⟨w.heap.size + 1 + 1, 1, none⟩ = some (.int .i64 8) ∧ w'.cell? ⟨w.heap.size + 1 + 1, 2, none⟩ = some (.int .i64 3) ∧ w'.cell? ⟨w.heap.size + 1 + 1, 3, none⟩ = some (.int .i64 0) ∧ w'.cell? ⟨w.heap.size + 1 + 1, 4, none⟩ = some (.int .i64 7) ∧ w'.cell? ⟨w.heap.size + 1 + 1, 5, none⟩ = some (.int .i64 1)) (first | exact kf | exact kg | (refine Blk.six (t := 140) ?_; (focus (repeat (first | (with_reducible refine Blk.drew ?_) | ((with_reducible refine Blk.new' _ _ _ _ ?_); (focus ((first | rfl | (simp only [World.size_alloc]; done) | (simp only [World.size_alloc, World.size_drew]; done))))) | (with_reducible refine Blk.alloc ?_ _))))))
    (first | (go_at_call 83; refine (imm_c _ _ _ _ _ _).mono ?_; rintro e w' ⟨rfl, rfl⟩))
  go_wp2_with fail
  try simp only [Exit.inBlock, Exit.then]
  refine bodyPost_ret (v := .tuple #[.agg #[.int .i64 36, .int .u16 36864, .slice (some ⟨w.heap.size + 1 + 1 + 1 + 1, 0, none⟩) 2 2], .bool true]) (by rw [results_cell_tmp rfl]; go_simp) rfl ?_
  exact ⟨_, rfl, (Blk.new' _ _ _ _ (by simp)), by (repeat (first | exact Below.refl _ _ | refine belowD ?_ | refine Below.alloc ?_ (by first | omega | (simp; done) | (simp; omega)) _))⟩
set_option maxHeartbeats 2000000 in
set_option maxRecDepth 100000 in
theorem later_35 (w : World) : Calls Try.prog 84 #[.int .i64 35] w (FoundAt w 35 38912 #[.int .i64 0, .int .i64 8, .int .i64 3, .int .i64 0, .int .i64 7, .int .i64 1, .int .i64 3, .int .i64 0, .int .i64 8, .int .i64 0, .int .i64 1020, .int .i64 4] 2) := by
  go_enter Try.func84, Try.ntmps84
  go_wp2_with fail
  refine (reg_c _ _ _).mono ?_
  rintro e w' ⟨rfl, rfl⟩
  have k0 : Blk (((w.alloc (.cells #[.int .i64 0, .int .u16 0, .slice none 0 0] 123)).alloc (.cells #[.int .i64 0, .int .i64 8, .int .i64 3, .int .i64 0, .int .i64 7, .int .i64 1] 140)).alloc (.cells #[.int .i64 0, .int .i64 8, .int .i64 3, .int .i64 0, .int .i64 7, .int .i64 1] 140)).drew (w.heap.size + 1 + 1) 140 #[.int .i64 0, .int .i64 8, .int .i64 3, .int .i64 0, .int .i64 7, .int .i64 1] := ((Blk.new' _ _ _ _ (by simp))).drew
  have kf := Blk.six k0
  have kg := Blk.six (k0.alloc (.cells #[.int .i64 3, .int .i64 0, .int .i64 8, .int .i64 0, .int .i64 1020, .int .i64 4] 140))
  clear k0
  go_wp2_with fail
  go_region_held3 (fun w' => w'.cell? ⟨w.heap.size + 1 + 1, 0, none⟩ = some (.int .i64 0) ∧ w'.cell? ⟨w.heap.size + 1 + 1, 1, none⟩ = some (.int .i64 8) ∧ w'.cell? ⟨w.heap.size + 1 + 1, 2, none⟩ = some (.int .i64 3) ∧ w'.cell? ⟨w.heap.size + 1 + 1, 3, none⟩ = some (.int .i64 0) ∧ w'.cell? ⟨w.heap.size + 1 + 1, 4, none⟩ = some (.int .i64 7) ∧ w'.cell? ⟨w.heap.size + 1 + 1, 5, none⟩ = some (.int .i64 1)) (first | exact kf | exact kg | (refine Blk.six (t := 140) ?_; (focus (repeat (first | (with_reducible refine Blk.drew ?_) | ((with_reducible refine Blk.new' _ _ _ _ ?_); (focus ((first | rfl | (simp only [World.size_alloc]; done) | (simp only [World.size_alloc, World.size_drew]; done))))) | (with_reducible refine Blk.alloc ?_ _))))))
    (first | (go_at_call 83; refine (imm_c _ _ _ _ _ _).mono ?_; rintro e w' ⟨rfl, rfl⟩))
  go_wp2_with fail
  try simp only [Exit.inBlock, Exit.then]
  refine bodyPost_ret (v := .tuple #[.agg #[.int .i64 35, .int .u16 38912, .slice (some ⟨w.heap.size + 1 + 1 + 1 + 1, 0, none⟩) 2 2], .bool true]) (by rw [results_cell_tmp rfl]; go_simp) rfl ?_
  exact ⟨_, rfl, (Blk.new' _ _ _ _ (by simp)), by (repeat (first | exact Below.refl _ _ | refine belowD ?_ | refine Below.alloc ?_ (by first | omega | (simp; done) | (simp; omega)) _))⟩
set_option maxHeartbeats 2000000 in
set_option maxRecDepth 100000 in
theorem later_37 (w : World) : Calls Try.prog 84 #[.int .i64 37] w (FoundAt w 37 45056 #[.int .i64 3, .int .i64 0, .int .i64 7, .int .i64 0, .int .i64 508, .int .i64 4] 1) := by
  go_enter Try.func84, Try.ntmps84
  go_wp2_with fail
  refine (reg_c _ _ _).mono ?_
  rintro e w' ⟨rfl, rfl⟩
  go_wp2_with fail
  refine (imm_c _ _ _ _ _ _).mono ?_
  rintro e w' ⟨rfl, rfl⟩
  go_wp2_with fail
  try simp only [Exit.inBlock, Exit.then]
  refine bodyPost_ret (v := .tuple #[.agg #[.int .i64 37, .int .u16 45056, .slice (some ⟨w.heap.size + 1 + 1 + 1 + 1, 0, none⟩) 1 1], .bool true]) (by rw [results_cell_tmp rfl]; go_simp) rfl ?_
  exact ⟨_, rfl, (Blk.new' _ _ _ _ (by simp)), by (repeat (first | exact Below.refl _ _ | refine belowD ?_ | refine Below.alloc ?_ (by first | omega | (simp; done) | (simp; omega)) _))⟩
set_option maxHeartbeats 2000000 in
set_option maxRecDepth 100000 in
theorem later_38 (w : World) : Calls Try.prog 84 #[.int .i64 38] w (FoundAt w 38 45184 #[.int .i64 3, .int .i64 0, .int .i64 7, .int .i64 0, .int .i64 508, .int .i64 4] 1) := by
  go_enter Try.func84, Try.ntmps84
  go_wp2_with fail
  refine (reg_c _ _ _).mono ?_
  rintro e w' ⟨rfl, rfl⟩
  go_wp2_with fail
  refine (imm_c _ _ _ _ _ _).mono ?_
  rintro e w' ⟨rfl, rfl⟩
  go_wp2_with fail
  try simp only [Exit.inBlock, Exit.then]
  refine bodyPost_ret (v := .tuple #[.agg #[.int .i64 38, .int .u16 45184, .slice (some ⟨w.heap.size + 1 + 1 + 1 + 1, 0, none⟩) 1 1], .bool true]) (by rw [results_cell_tmp rfl]; go_simp) rfl ?_
  exact ⟨_, rfl, (Blk.new' _ _ _ _ (by simp)), by (repeat (first | exact Below.refl _ _ | refine belowD ?_ | refine Below.alloc ?_ (by first | omega | (simp; done) | (simp; omega)) _))⟩
set_option maxHeartbeats 2000000 in
set_option maxRecDepth 100000 in
theorem later_39 (w : World) : Calls Try.prog 84 #[.int .i64 39] w (FoundAt w 39 46080 #[.int .i64 3, .int .i64 0, .int .i64 9, .int .i64 1, .int .i64 511, .int .i64 1] 1) := by
  go_enter Try.func84, Try.ntmps84
  go_wp2_with fail
  refine (reg_c _ _ _).mono ?_
  rintro e w' ⟨rfl, rfl⟩
  go_wp2_with fail
  refine (imm_c _ _ _ _ _ _).mono ?_
  rintro e w' ⟨rfl, rfl⟩
  go_wp2_with fail
  try simp only [Exit.inBlock, Exit.then]
  refine bodyPost_ret (v := .tuple #[.agg #[.int .i64 39, .int .u16 46080, .slice (some ⟨w.heap.size + 1 + 1 + 1 + 1, 0, none⟩) 1 1], .bool true]) (by rw [results_cell_tmp rfl]; go_simp) rfl ?_
  exact ⟨_, rfl, (Blk.new' _ _ _ _ (by simp)), by (repeat (first | exact Below.refl _ _ | refine belowD ?_ | refine Below.alloc ?_ (by first | omega | (simp; done) | (simp; omega)) _))⟩
set_option maxHeartbeats 2000000 in
set_option maxRecDepth 100000 in
theorem later_40 (w : World) : Calls Try.prog 84 #[.int .i64 40] w (FoundAt w 40 48128 #[.int .i64 3, .int .i64 0, .int .i64 9, .int .i64 1, .int .i64 511, .int .i64 1] 1) := by
  go_enter Try.func84, Try.ntmps84
  go_wp2_with fail
  refine (reg_c _ _ _).mono ?_
  rintro e w' ⟨rfl, rfl⟩
  go_wp2_with fail
  refine (imm_c _ _ _ _ _ _).mono ?_
  rintro e w' ⟨rfl, rfl⟩
  go_wp2_with fail
  try simp only [Exit.inBlock, Exit.then]
  refine bodyPost_ret (v := .tuple #[.agg #[.int .i64 40, .int .u16 48128, .slice (some ⟨w.heap.size + 1 + 1 + 1 + 1, 0, none⟩) 1 1], .bool true]) (by rw [results_cell_tmp rfl]; go_simp) rfl ?_
  exact ⟨_, rfl, (Blk.new' _ _ _ _ (by simp)), by (repeat (first | exact Below.refl _ _ | refine belowD ?_ | refine Below.alloc ?_ (by first | omega | (simp; done) | (simp; omega)) _))⟩
set_option maxHeartbeats 2000000 in
set_option maxRecDepth 100000 in
theorem later_41 (w : World) : Calls Try.prog 84 #[.int .i64 41] w (FoundAt w 41 53248 #[.int .i64 3, .int .i64 0, .int .i64 8, .int .i64 (-256), .int .i64 254, .int .i64 2, .int .i64 4, .int .i64 8, .int .i64 4, .int .i64 0, .int .i64 13, .int .i64 1] 2) := by
  go_enter Try.func84, Try.ntmps84
  go_wp2_with fail
  refine (reg_c _ _ _).mono ?_
  rintro e w' ⟨rfl, rfl⟩
  go_wp2_with fail
  refine (imm_c _ _ _ _ _ _).mono ?_
  rintro e w' ⟨rfl, rfl⟩
  go_wp2_with fail
  try simp only [Exit.inBlock, Exit.then]
  refine bodyPost_ret (v := .tuple #[.agg #[.int .i64 41, .int .u16 53248, .slice (some ⟨w.heap.size + 1 + 1 + 1 + 1, 0, none⟩) 2 2], .bool true]) (by rw [results_cell_tmp rfl]; go_simp) rfl ?_
  exact ⟨_, rfl, (Blk.new' _ _ _ _ (by simp)), by (repeat (first | exact Below.refl _ _ | refine belowD ?_ | refine Below.alloc ?_ (by first | omega | (simp; done) | (simp; omega)) _))⟩
set_option maxHeartbeats 2000000 in
set_option maxRecDepth 100000 in
theorem later_42 (w : World) : Calls Try.prog 84 #[.int .i64 42] w (FoundAt w 42 57344 #[.int .i64 3, .int .i64 0, .int .i64 11, .int .i64 (-2048), .int .i64 2046, .int .i64 2] 1) := by
  go_enter Try.func84, Try.ntmps84
  go_wp2_with fail
  refine (reg_c _ _ _).mono ?_
  rintro e w' ⟨rfl, rfl⟩
  go_wp2_with fail
  refine (imm_c _ _ _ _ _ _).mono ?_
  rintro e w' ⟨rfl, rfl⟩
  go_wp2_with fail
  try simp only [Exit.inBlock, Exit.then]
  refine bodyPost_ret (v := .tuple #[.agg #[.int .i64 42, .int .u16 57344, .slice (some ⟨w.heap.size + 1 + 1 + 1 + 1, 0, none⟩) 1 1], .bool true]) (by rw [results_cell_tmp rfl]; go_simp) rfl ?_
  exact ⟨_, rfl, (Blk.new' _ _ _ _ (by simp)), by (repeat (first | exact Below.refl _ _ | refine belowD ?_ | refine Below.alloc ?_ (by first | omega | (simp; done) | (simp; omega)) _))⟩
set_option maxHeartbeats 2000000 in
set_option maxRecDepth 100000 in
theorem later_44 (w : World) : Calls Try.prog 84 #[.int .i64 44] w (FoundAt w 44 57088 #[.int .i64 3, .int .i64 0, .int .i64 8, .int .i64 0, .int .i64 255, .int .i64 1] 1) := by
  go_enter Try.func84, Try.ntmps84
  go_wp2_with fail
  refine (reg_c _ _ _).mono ?_
  rintro e w' ⟨rfl, rfl⟩
  go_wp2_with fail
  refine (imm_c _ _ _ _ _ _).mono ?_
  rintro e w' ⟨rfl, rfl⟩
  go_wp2_with fail
  try simp only [Exit.inBlock, Exit.then]
  refine bodyPost_ret (v := .tuple #[.agg #[.int .i64 44, .int .u16 57088, .slice (some ⟨w.heap.size + 1 + 1 + 1 + 1, 0, none⟩) 1 1], .bool true]) (by rw [results_cell_tmp rfl]; go_simp) rfl ?_
  exact ⟨_, rfl, (Blk.new' _ _ _ _ (by simp)), by (repeat (first | exact Below.refl _ _ | refine belowD ?_ | refine Below.alloc ?_ (by first | omega | (simp; done) | (simp; omega)) _))⟩
set_option maxHeartbeats 2000000 in
set_option maxRecDepth 100000 in
theorem later_45 (w : World) : Calls Try.prog 84 #[.int .i64 45] w (fun e w' => e = .returned (.tuple #[.agg #[.int .i64 45, .int .u16 48896, .slice none 0 0], .bool true]) ∧ Below w.heap.size w w') := by
  go_enter Try.func84, Try.ntmps84
  go_wp2_with fail
  refine (reg_c _ _ _).mono ?_
  rintro e w' ⟨rfl, rfl⟩
  go_wp2_with fail
  try simp only [Exit.inBlock, Exit.then]
  refine bodyPost_ret (v := .tuple #[.agg #[.int .i64 45, .int .u16 48896, .slice none 0 0], .bool true]) (by rw [results_cell_tmp rfl]; go_simp) rfl ?_
  exact ⟨rfl, by (repeat (first | exact Below.refl _ _ | refine belowD ?_ | refine Below.alloc ?_ (by first | omega | (simp; done) | (simp; omega)) _))⟩
set_option maxRecDepth 100000 in
theorem later_none (op : Int) (w : World) (h1 : op ≠ 36) (h2 : op ≠ 35) (h3 : op ≠ 37) (h4 : op ≠ 38) (h5 : op ≠ 39) (h6 : op ≠ 40) (h7 : op ≠ 41) (h8 : op ≠ 42) (h9 : op ≠ 44) (h10 : op ≠ 45) :
    Calls Try.prog 84 #[.int .i64 op] w (fun e w' => e = .returned (.tuple #[.agg #[.int .i64 0, .int .u16 0, .slice none 0 0], .bool false]) ∧ Below w.heap.size w w') := by
  go_enter Try.func84, Try.ntmps84
  go_wp2_with fail
  refine (reg_c _ _ _).mono ?_
  rintro e w' ⟨rfl, rfl⟩
  go_wp2_with fail
  try simp only [Exit.inBlock, Exit.then]
  refine bodyPost_ret (v := .tuple #[.agg #[.int .i64 0, .int .u16 0, .slice none 0 0], .bool false]) (by rw [results_cell_tmp rfl]; go_simp) rfl ?_
  exact ⟨rfl, by (repeat (first | exact Below.refl _ _ | refine belowD ?_ | refine Below.alloc ?_ (by first | omega | (simp; done) | (simp; omega)) _))⟩
end Go.Proofs.Ytpihjhfaeloapaa
namespace Go.Proofs.Ytpihjhfaeloapaa
open Go.RowKit On Th
theorem part_c (p : Nat) (k : Int) (w : World) : Calls Try.prog 87 #[.pointer (some ⟨p, 0, none⟩), .int .i64 k] w fun e w' => e = .returned (.pointer (some ⟨p, po k, none⟩)) ∧ w = w' := by
  unfold po
  by_cases h0 : k = 0
  · subst h0; go_enter Try.func87, Try.ntmps87
    go_wp2
    go_ret
    exact ⟨rfl, rfl⟩
  · by_cases h1 : k = 1
    · subst h1; go_enter Try.func87, Try.ntmps87
      go_wp2
      go_ret
      exact ⟨rfl, rfl⟩
    · by_cases h2 : k = 2
      · subst h2; go_enter Try.func87, Try.ntmps87
        go_wp2
        go_ret
        exact ⟨rfl, rfl⟩
      · by_cases h3 : k = 3
        · subst h3; go_enter Try.func87, Try.ntmps87
          go_wp2
          go_ret
          exact ⟨rfl, rfl⟩
        · rw [if_neg h0, if_neg h1, if_neg h2, if_neg h3]
          go_enter Try.func87, Try.ntmps87
          go_wp2
          go_ret
          exact ⟨rfl, rfl⟩
set_option maxHeartbeats 1000000 in
theorem rightPart_c (op b k : Int) (A : Option Addr) (l : List Sl) (i : Ins) (w : World) (hl : SlA 140 w A l) (hst : ∀ s ∈ l, s.step ≠ 0) (hlen : l.length ≤ 5) :
    Calls Try.prog 81 #[.agg #[.int .i64 op, .int .u16 b, .slice A l.length l.length], .agg i.cells, .int .i64 k] w fun e w' => e = .returned (.bool (rpS l (i.part k) k)) ∧ Below w.heap.size w w' := by
  have HL := Lib.hid hl
  have KI : Blk ((w.alloc (.cells #[.int .i64 op, .int .u16 b, .slice A l.length l.length] 123)).alloc (.cells i.cells 36)) (w.heap.size + 1) 36 i.cells := Blk.new' _ _ _ _ (by simp)
  have hv : ((w.alloc (.cells #[.int .i64 op, .int .u16 b, .slice A l.length l.length] 123)).alloc (.cells i.cells 36)).cell? ⟨w.heap.size + 1, po k, none⟩ = some (.int .i64 (i.part k)) := (KI.cell _).trans (part_cell i k)
  have HB : Hid (Below w.heap.size w ((w.alloc (.cells #[.int .i64 op, .int .u16 b, .slice A l.length l.length] 123)).alloc (.cells i.cells 36))) := ((Below.refl _ _).alloc (Nat.le_refl _) _).alloc (by simp) _
  obtain ⟨v, hvq⟩ : ∃ v, i.part k = v := ⟨_, rfl⟩
  rw [hvq] at hv ⊢
  clear hl KI hvq
  go_enter Try.func81, Try.ntmps81
  go_wp2_with fail
  refine (part_c _ _ _).mono ?_
  rintro e w' ⟨rfl, rfl⟩
  go_wp2_with fail
  go_loopw [17] (fun j wr => ∃ q : Nat, q ≤ l.length ∧ j = .int .i64 q ∧ rpS l v k = rpS (l.drop q) v k ∧ Below w.heap.size w wr) (fun j _ => l.length - (intOf j).toNat)
  case atStart => exact ⟨0, Nat.zero_le _, rfl, rfl, HB.out⟩
  case round =>
    obtain ⟨q, hq, rfl, hrp, hb⟩ := hrel
    have HBR := Lib.hid hb
    have HLR := Lib.hid (HL.out.below hb)
    clear hb HB
    by_cases hlt : q < l.length
    · obtain ⟨s, hs⟩ : ∃ s, l[q]? = some s := ⟨l[q], by simp [hlt]⟩
      have hstep := hst s (List.mem_of_getElem? hs)
      have hd : l.drop q = s :: l.drop (q + 1) := by
        obtain ⟨h1, h2⟩ := List.getElem?_eq_some_iff.mp hs
        rw [List.drop_eq_getElem_cons h1, h2]
      rw [hd, rpS] at hrp
      obtain ⟨g, hA, hg, c0, c1, c2, c3, c4, c5⟩ := HLR.out.cell hs
      subst hA
      have HBA : Hid (Below w.heap.size w (wr.alloc (.cells #[.int .i64 s.part, .int .i64 s.shift, .int .i64 s.bits, .int .i64 s.least, .int .i64 s.most, .int .i64 s.step] 140))) := HBR.out.alloc HBR.out.size _
      clear hd hs
      by_cases hp : s.part = k
      · rw [if_pos hp] at hrp
        subst hp
        have HRP := Lib.hid hrp
        clear hrp
        by_cases h1 : s.least ≤ v
        · by_cases h2 : v ≤ s.most
          · by_cases h3 : v.tmod s.step = 0
            all_goals
              go_wp2_with fail
              go_ret
              exact ⟨retB (by rw [HRP.out]; simp [h1, h2, h3]), HBA.out⟩
          · go_wp2_with fail
            go_ret
            exact ⟨retB (by rw [HRP.out]; simp; omega), HBA.out⟩
        · go_wp2_with fail
          go_ret
          exact ⟨retB (by rw [HRP.out]; simp; omega), HBA.out⟩
      · rw [if_neg hp] at hrp
        have HRP := Lib.hid hrp
        clear hrp
        go_wp2_with fail
        go_roundw
        case rel => exact ⟨q + 1, by omega, by go_num, HRP.out, HBA.out⟩
        case measure => simp [intOf]; omega
    · have hqe : q = l.length := by omega
      subst hqe
      rw [List.drop_length, rpS] at hrp
      have HRP := Lib.hid hrp
      clear hrp
      by_cases h0 : v = 0
      all_goals
        go_wp2_with fail
        go_ret
        exact ⟨retB (by rw [HRP.out]; try simp [h0]), HBR.out⟩
end Go.Proofs.Ytpihjhfaeloapaa
namespace Go.Proofs.Ytpihjhfaeloapaa
open Go.RowKit On Th
set_option maxHeartbeats 2000000 in
theorem right28 (d n m imm cond : Int) (w : World) : Calls Try.prog 71 #[.agg #[.int .i64 28, .int .i64 d, .int .i64 n, .int .i64 m, .int .i64 imm, .int .i64 cond]] w fun e w' => e = .returned (.bool (rightS ⟨28, d, n, m, imm, cond⟩)) ∧ Below w.heap.size w w' := by
  go_enter Try.func71, Try.ntmps71
  go_wp2_with fail
  all_goals
    go_ret
    refine ⟨retB ?_, (Below.refl _ _).alloc (Nat.le_refl _) _⟩
    rw [Bool.eq_iff_iff]
    unfold rightS
    first | (simp; done) | (simp; omega)
set_option maxHeartbeats 2000000 in
theorem right43 (d n m imm cond : Int) (w : World) : Calls Try.prog 71 #[.agg #[.int .i64 43, .int .i64 d, .int .i64 n, .int .i64 m, .int .i64 imm, .int .i64 cond]] w fun e w' => e = .returned (.bool (rightS ⟨43, d, n, m, imm, cond⟩)) ∧ Below w.heap.size w w' := by
  go_enter Try.func71, Try.ntmps71
  go_wp2_with fail
  all_goals
    go_ret
    refine ⟨retB ?_, (Below.refl _ _).alloc (Nat.le_refl _) _⟩
    rw [Bool.eq_iff_iff]
    unfold rightS
    first | (simp; done) | (simp; omega)
/-- a row, its slots in memory; whether there is one -/
def RowAt (l : List Sl) (op b : Int) (ok : Bool) (w : World) (e : Ending) (w' : World) : Prop :=
  ∃ A, e = .returned (.tuple #[.agg #[.int .i64 op, .int .u16 b, .slice A l.length l.length], .bool ok]) ∧ SlA 140 w' A l ∧ Below w.heap.size w w'
def upTo (l : List Sl) (i : Ins) (q : Nat) : Bool := (List.range q).all fun k => rpS l (i.part k) k
theorem upTo_succ (l : List Sl) (i : Ins) (q : Nat) : upTo l i (q + 1) = (upTo l i q && rpS l (i.part q) q) := by
  unfold upTo; rw [List.range_succ, List.all_append]; simp
theorem upTo_five (l : List Sl) (i : Ins) : upTo l i 5 = rowOk l i := by
  simp only [upTo_succ]; simp [upTo, rowOk, Ins.part]
set_option maxHeartbeats 2000000 in
theorem rightRow (op d n m imm cond o b : Int) (l : List Sl) (ok : Bool) (w : World) (hf : ∀ w, Calls Try.prog 72 #[.int .i64 op] w (RowAt l o b ok w)) (hst : ∀ s ∈ l, s.step ≠ 0) (hlen : l.length ≤ 5) (h28 : op ≠ 28) (h43 : op ≠ 43) :
    Calls Try.prog 71 #[.agg #[.int .i64 op, .int .i64 d, .int .i64 n, .int .i64 m, .int .i64 imm, .int .i64 cond]] w fun e w' => e = .returned (.bool (ok && rowOk l ⟨op, d, n, m, imm, cond⟩)) ∧ Below w.heap.size w w' := by
  have HF := Lib.hid hf
  have HST := Lib.hid hst
  clear hf hst
  rw [← upTo_five]
  have KI : Blk (w.alloc (.cells #[.int .i64 op, .int .i64 d, .int .i64 n, .int .i64 m, .int .i64 imm, .int .i64 cond] 36)) w.heap.size 36 #[.int .i64 op, .int .i64 d, .int .i64 n, .int .i64 m, .int .i64 imm, .int .i64 cond] := Blk.new _ _ _
  have HB0 : Hid (Below w.heap.size w (w.alloc (.cells #[.int .i64 op, .int .i64 d, .int .i64 n, .int .i64 m, .int .i64 imm, .int .i64 cond] 36))) := (Below.refl _ _).alloc (Nat.le_refl _) _
  go_enter Try.func71, Try.ntmps71
  go_wp2_with fail
  refine (HF.out _).mono ?_
  rintro e w2 ⟨A, rfl, hs, hb⟩
  have KI2 : Hid (Blk (w2.alloc (.cells #[.int .i64 o, .int .u16 b, .slice A l.length l.length] 123)) w.heap.size 36 #[.int .i64 op, .int .i64 d, .int .i64 n, .int .i64 m, .int .i64 imm, .int .i64 cond]) := (KI.only (S := fun _ => False) (Only.of_below hb) id).alloc _
  have KR2 : Hid (Blk (w2.alloc (.cells #[.int .i64 o, .int .u16 b, .slice A l.length l.length] 123)) w2.heap.size 123 #[.int .i64 o, .int .u16 b, .slice A l.length l.length]) := Blk.new _ _ _
  have hb2 : Below w2.heap.size w2 (w2.alloc (.cells #[.int .i64 o, .int .u16 b, .slice A l.length l.length] 123)) := (Below.refl _ _).alloc (Nat.le_refl _) _
  have HS2 : Hid (SlA 140 (w2.alloc (.cells #[.int .i64 o, .int .u16 b, .slice A l.length l.length] 123)) A l) := hs.below hb2
  have HB2 := Lib.hid ((HB0.out.trans (hb.mono HB0.out.size)).trans (hb2.mono (by have := HB0.out.size; have := hb.size; omega)))
  clear KI hb hs hb2
  go_wp2_with fail
  go_loopw [4, 71] (fun s j wr => ∃ q : Nat, q ≤ 5 ∧ j = .int .i64 q ∧ s = .bool (ok && upTo l ⟨op, d, n, m, imm, cond⟩ q) ∧ Below (w2.alloc (.cells #[.int .i64 o, .int .u16 b, .slice A l.length l.length] 123)).heap.size (w2.alloc (.cells #[.int .i64 o, .int .u16 b, .slice A l.length l.length] 123)) wr) (fun _ j _ => 5 - (intOf j).toNat)
  case atStart => exact ⟨0, by omega, by rfl, by simp [upTo], Below.refl _ _⟩
  case round =>
    obtain ⟨q, hq, rfl, rfl, hb⟩ := hrel
    have HB := Lib.hid (HB2.out.trans (hb.mono HB2.out.size))
    have HS := Lib.hid (HS2.out.below hb)
    have kr := KR2.out.only (S := fun _ => False) (Only.of_below hb) id
    have ki := KI2.out.only (S := fun _ => False) (Only.of_below hb) id
    have HBL := Lib.hid hb
    clear hb
    by_cases hlt : q < 5
    · have hsu := upTo_succ l ⟨op, d, n, m, imm, cond⟩ q
      generalize hu : (ok && upTo l ⟨op, d, n, m, imm, cond⟩ q) = u
      have hsu' : (ok && upTo l ⟨op, d, n, m, imm, cond⟩ (q + 1)) = (u && rpS l ((⟨op, d, n, m, imm, cond⟩ : Ins).part q) q) := by rw [hsu, ← Bool.and_assoc, hu]
      have HSU := Lib.hid hsu'
      clear hsu hsu' hu
      have r0 := kr.cell 0
      have r1 := kr.cell 1
      have r2 := kr.cell 2
      have i0 := ki.cell 0
      have i1 := ki.cell 1
      have i2 := ki.cell 2
      have i3 := ki.cell 3
      have i4 := ki.cell 4
      have i5 := ki.cell 5
      simp at r0 r1 r2 i0 i1 i2 i3 i4 i5
      clear kr ki
      cases u
      · go_wp2_with fail
        go_roundw
        case rel => exact ⟨q + 1, by omega, by go_num, by rw [HSU.out]; rfl, HBL.out⟩
        case measure => simp [intOf]; omega
      · go_wp2_with fail
        refine (rightPart_c o b q A l ⟨op, d, n, m, imm, cond⟩ _ HS.out HST.out hlen).mono ?_
        rintro e w3 ⟨rfl, hb3⟩
        have HB3 := Lib.hid (HBL.out.trans (hb3.mono HBL.out.size))
        clear hb3
        go_wp2_with fail
        go_roundw
        case rel => exact ⟨q + 1, by omega, by go_num, by rw [HSU.out]; rfl, HB3.out⟩
        case measure => simp [intOf]; omega
    · have hq5 : q = 5 := by omega
      subst hq5
      clear kr ki
      go_wp2_with fail
      go_ret
      exact ⟨rfl, HB.out⟩
end Go.Proofs.Ytpihjhfaeloapaa
namespace Go.Proofs.Ytpihjhfaeloapaa
open Go.RowKit On Th
/-- what Right answers -/
def RightIs (i : Ins) (r : Bool) : Prop := ∀ w, Calls Try.prog 71 #[.agg #[.int .i64 i.op, .int .i64 i.d, .int .i64 i.n, .int .i64 i.m, .int .i64 i.imm, .int .i64 i.cond]] w fun e w' => e = .returned (.bool r) ∧ Below w.heap.size w w'
/-- halfwords in memory of their own -/
def HalfAt (hs : List Int) (w : World) (e : Ending) (w' : World) : Prop :=
  ∃ g, e = .returned (.tuple #[.slice (some ⟨g, 0, none⟩) hs.length hs.length, .int .i64 0]) ∧ Blk w' g 79 (hs.map (Value.int .u16)).toArray ∧ Below w.heap.size w w'
end Go.Proofs.Ytpihjhfaeloapaa
namespace Go.Proofs.Ytpihjhfaeloapaa
open Go.RowKit On Th
set_option maxHeartbeats 2000000 in
theorem odd_c (h : Int) (w : World) : Calls Try.prog 85 #[.int .u16 h] w fun e w' => e = .returned (.int .i64 (oddS h)) ∧ w = w' := by
  go_enter Try.func85, Try.ntmps85
  go_wp2_with fail
  all_goals
    try go_ret
    refine ⟨retI ?_, rfl⟩
    try simp only [beq_iff_eq, beq_eq_false_iff_ne, ne_eq] at *
    unfold oddS
    repeat (first | rw [if_pos (by omega)] | rw [if_neg (by omega)])
    try rfl
theorem u16_mask (h : Int) (m k : Nat) (h0 : 0 ≤ h) (h1 : h < 65536) (hm : m < 65536) (hk : ∀ x : Nat, x &&& m = x % k) : bits .and .u16 h (m : Int) = h % (k : Int) := by
  obtain ⟨n, rfl⟩ : ∃ n : Nat, h = n := ⟨h.toNat, by omega⟩
  rw [u16_and_nat n m (by omega) hm, hk]; simp
set_option maxHeartbeats 4000000 in
theorem op_c (h : Int) (w : World) (h0 : 0 ≤ h) (h1 : h < 65536) : Calls Try.prog 73 #[.int .u16 h] w fun e w' => e = .returned (.int .i64 (opS h)) ∧ w = w' := by
  have q1 : bits .and .u16 (h / 512) 3 = h / 512 % 4 := u16_mask (h / 512) 3 4 (by omega) (by omega) (by omega) nat_mask2
  have q2 : bits .and .u16 (h / 64) 15 = h / 64 % 16 := u16_mask (h / 64) 15 16 (by omega) (by omega) (by omega) nat_mask4
  go_enter Try.func73, Try.ntmps73
  go_wp2_with fail
  all_goals
    try (refine (odd_c _ _).mono ?_; rintro e w' ⟨rfl, rfl⟩; go_wp2_with fail)
    try go_ret
    refine ⟨retI ?_, rfl⟩
    try simp only [beq_iff_eq, beq_eq_false_iff_ne, ne_eq] at *
    unfold opS
    repeat (first | rw [if_pos (by omega)] | rw [if_neg (by omega)])
    try rfl
    try (rw [IntKind.wrap_u16]; unfold wrap64; omega)
set_option maxHeartbeats 2000000 in
theorem width_c (p sh b l m s : Int) (w : World) (hb : 0 ≤ b) (hb' : b < 16) : Calls Try.prog 86 #[.agg #[.int .i64 p, .int .i64 sh, .int .i64 b, .int .i64 l, .int .i64 m, .int .i64 s]] w fun e w' => e = .returned (.int .i64 (wrap64 (s * 2 ^ b.toNat))) ∧ w' = w.alloc (.cells #[.int .i64 p, .int .i64 sh, .int .i64 b, .int .i64 l, .int .i64 m, .int .i64 s] 140) := by
  go_enter Try.func86, Try.ntmps86
  go_wp2_with fail
  go_ret
  exact ⟨rfl, rfl⟩
end Go.Proofs.Ytpihjhfaeloapaa
