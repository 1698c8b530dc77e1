/- MERGED by mergev.py: XQi3 XQj. -/
import Derived.Test.YtpihjhfaeloapaaVu
namespace Go.Proofs.Ytpihjhfaeloapaa
open Go.RowKit On Th
set_option maxHeartbeats 4000000 in
set_option maxRecDepth 100000 in
theorem ins_31 (x0 x1 x2 x3 x4 x5 : Int) (w : World) (h0 : x0 % 45 = 30) : Calls Try.prog 17 #[.agg #[.int .i64 x0, .int .i64 x1, .int .i64 x2, .int .i64 x3, .int .i64 x4, .int .i64 x5]] w (InsAt w) := by
  have p0 : Hid (∀ w, Calls Try.prog 27 #[.int .i64 x0, .int .i64 45] w fun e w' => e = .returned (.int .i64 30) ∧ w = w') := fun w => (pickN x0 45 (by decide) (by decide) w).mono (fun _ _ h => ⟨by rw [h.1, h0], h.2⟩)
  clear h0
  obtain ⟨yd, bd, pd⟩ := low_h x1
  obtain ⟨yn, bn, pn⟩ := low_h x2
  obtain ⟨yi, bi, _, pimm⟩ := pickH x4 32 (by decide) (by decide)
  have HRT : Hid (rightS ⟨31, yd, yn, 0, (4 * yi), 0⟩ = true) := Lib.hid (by
    simp [rightS, rowOf, rowOk, rpS, reg, im]
    try omega)
  go_enter Try.func17, Try.ntmps17
  go_wp2_with fail
  refine (p0.out _).mono ?_
  rintro e w' ⟨rfl, rfl⟩
  go_wp2_with fail
  refine (pd.out _).mono ?_
  rintro e w' ⟨rfl, rfl⟩
  go_wp2_with fail
  refine (pn.out _).mono ?_
  rintro e w' ⟨rfl, rfl⟩
  go_wp2_with fail
  refine (pimm.out _).mono ?_
  rintro e w' ⟨rfl, rfl⟩
  go_wp2_with fail
  try simp only [Exit.inBlock, Exit.then]
  refine bodyPost_ret (results_cell_row rfl _ _ (w.heap.size + 1) 36 #[.int .i64 31, .int .i64 yd, .int .i64 yn, .int .i64 0, .int .i64 (4 * yi), .int .i64 0] (0, 0) _ (by rfl) (blk2 _ _ _ _ _) Try.underlying36 rfl (by rfl)) rfl ?_
  exact ⟨⟨31, yd, yn, 0, (4 * yi), 0⟩, HRT.out, rfl, (((Below.refl _ _).alloc (Nat.le_refl _) _).alloc (by simp) _).alloc (by simp; omega) _⟩
set_option maxHeartbeats 4000000 in
set_option maxRecDepth 100000 in
theorem ins_32 (x0 x1 x2 x3 x4 x5 : Int) (w : World) (h0 : x0 % 45 = 31) : Calls Try.prog 17 #[.agg #[.int .i64 x0, .int .i64 x1, .int .i64 x2, .int .i64 x3, .int .i64 x4, .int .i64 x5]] w (InsAt w) := by
  have p0 : Hid (∀ w, Calls Try.prog 27 #[.int .i64 x0, .int .i64 45] w fun e w' => e = .returned (.int .i64 31) ∧ w = w') := fun w => (pickN x0 45 (by decide) (by decide) w).mono (fun _ _ h => ⟨by rw [h.1, h0], h.2⟩)
  clear h0
  obtain ⟨yd, bd, pd⟩ := low_h x1
  obtain ⟨yn, bn, pn⟩ := low_h x2
  obtain ⟨yi, bi, _, pimm⟩ := pickH x4 32 (by decide) (by decide)
  have HRT : Hid (rightS ⟨32, yd, yn, 0, (4 * yi), 0⟩ = true) := Lib.hid (by
    simp [rightS, rowOf, rowOk, rpS, reg, im]
    try omega)
  go_enter Try.func17, Try.ntmps17
  go_wp2_with fail
  refine (p0.out _).mono ?_
  rintro e w' ⟨rfl, rfl⟩
  go_wp2_with fail
  refine (pd.out _).mono ?_
  rintro e w' ⟨rfl, rfl⟩
  go_wp2_with fail
  refine (pn.out _).mono ?_
  rintro e w' ⟨rfl, rfl⟩
  go_wp2_with fail
  refine (pimm.out _).mono ?_
  rintro e w' ⟨rfl, rfl⟩
  go_wp2_with fail
  try simp only [Exit.inBlock, Exit.then]
  refine bodyPost_ret (results_cell_row rfl _ _ (w.heap.size + 1) 36 #[.int .i64 32, .int .i64 yd, .int .i64 yn, .int .i64 0, .int .i64 (4 * yi), .int .i64 0] (0, 0) _ (by rfl) (blk2 _ _ _ _ _) Try.underlying36 rfl (by rfl)) rfl ?_
  exact ⟨⟨32, yd, yn, 0, (4 * yi), 0⟩, HRT.out, rfl, (((Below.refl _ _).alloc (Nat.le_refl _) _).alloc (by simp) _).alloc (by simp; omega) _⟩
set_option maxHeartbeats 4000000 in
set_option maxRecDepth 100000 in
theorem ins_33 (x0 x1 x2 x3 x4 x5 : Int) (w : World) (h0 : x0 % 45 = 32) : Calls Try.prog 17 #[.agg #[.int .i64 x0, .int .i64 x1, .int .i64 x2, .int .i64 x3, .int .i64 x4, .int .i64 x5]] w (InsAt w) := by
  have p0 : Hid (∀ w, Calls Try.prog 27 #[.int .i64 x0, .int .i64 45] w fun e w' => e = .returned (.int .i64 32) ∧ w = w') := fun w => (pickN x0 45 (by decide) (by decide) w).mono (fun _ _ h => ⟨by rw [h.1, h0], h.2⟩)
  clear h0
  obtain ⟨yd, bd, pd⟩ := low_h x1
  obtain ⟨yn, bn, pn⟩ := low_h x2
  obtain ⟨yi, bi, _, pimm⟩ := pickH x4 32 (by decide) (by decide)
  have HRT : Hid (rightS ⟨33, yd, yn, 0, yi, 0⟩ = true) := Lib.hid (by
    simp [rightS, rowOf, rowOk, rpS, reg, im]
    try omega)
  go_enter Try.func17, Try.ntmps17
  go_wp2_with fail
  refine (p0.out _).mono ?_
  rintro e w' ⟨rfl, rfl⟩
  go_wp2_with fail
  refine (pd.out _).mono ?_
  rintro e w' ⟨rfl, rfl⟩
  go_wp2_with fail
  refine (pn.out _).mono ?_
  rintro e w' ⟨rfl, rfl⟩
  go_wp2_with fail
  refine (pimm.out _).mono ?_
  rintro e w' ⟨rfl, rfl⟩
  go_wp2_with fail
  try simp only [Exit.inBlock, Exit.then]
  refine bodyPost_ret (results_cell_row rfl _ _ (w.heap.size + 1) 36 #[.int .i64 33, .int .i64 yd, .int .i64 yn, .int .i64 0, .int .i64 yi, .int .i64 0] (0, 0) _ (by rfl) (blk2 _ _ _ _ _) Try.underlying36 rfl (by rfl)) rfl ?_
  exact ⟨⟨33, yd, yn, 0, yi, 0⟩, HRT.out, rfl, (((Below.refl _ _).alloc (Nat.le_refl _) _).alloc (by simp) _).alloc (by simp; omega) _⟩
set_option maxHeartbeats 4000000 in
set_option maxRecDepth 100000 in
theorem ins_34 (x0 x1 x2 x3 x4 x5 : Int) (w : World) (h0 : x0 % 45 = 33) : Calls Try.prog 17 #[.agg #[.int .i64 x0, .int .i64 x1, .int .i64 x2, .int .i64 x3, .int .i64 x4, .int .i64 x5]] w (InsAt w) := by
  have p0 : Hid (∀ w, Calls Try.prog 27 #[.int .i64 x0, .int .i64 45] w fun e w' => e = .returned (.int .i64 33) ∧ w = w') := fun w => (pickN x0 45 (by decide) (by decide) w).mono (fun _ _ h => ⟨by rw [h.1, h0], h.2⟩)
  clear h0
  obtain ⟨yd, bd, pd⟩ := low_h x1
  obtain ⟨yn, bn, pn⟩ := low_h x2
  obtain ⟨yi, bi, _, pimm⟩ := pickH x4 32 (by decide) (by decide)
  have HRT : Hid (rightS ⟨34, yd, yn, 0, yi, 0⟩ = true) := Lib.hid (by
    simp [rightS, rowOf, rowOk, rpS, reg, im]
    try omega)
  go_enter Try.func17, Try.ntmps17
  go_wp2_with fail
  refine (p0.out _).mono ?_
  rintro e w' ⟨rfl, rfl⟩
  go_wp2_with fail
  refine (pd.out _).mono ?_
  rintro e w' ⟨rfl, rfl⟩
  go_wp2_with fail
  refine (pn.out _).mono ?_
  rintro e w' ⟨rfl, rfl⟩
  go_wp2_with fail
  refine (pimm.out _).mono ?_
  rintro e w' ⟨rfl, rfl⟩
  go_wp2_with fail
  try simp only [Exit.inBlock, Exit.then]
  refine bodyPost_ret (results_cell_row rfl _ _ (w.heap.size + 1) 36 #[.int .i64 34, .int .i64 yd, .int .i64 yn, .int .i64 0, .int .i64 yi, .int .i64 0] (0, 0) _ (by rfl) (blk2 _ _ _ _ _) Try.underlying36 rfl (by rfl)) rfl ?_
  exact ⟨⟨34, yd, yn, 0, yi, 0⟩, HRT.out, rfl, (((Below.refl _ _).alloc (Nat.le_refl _) _).alloc (by simp) _).alloc (by simp; omega) _⟩
set_option maxHeartbeats 4000000 in
set_option maxRecDepth 100000 in
theorem ins_35 (x0 x1 x2 x3 x4 x5 : Int) (w : World) (h0 : x0 % 45 = 34) : Calls Try.prog 17 #[.agg #[.int .i64 x0, .int .i64 x1, .int .i64 x2, .int .i64 x3, .int .i64 x4, .int .i64 x5]] w (InsAt w) := by
  have p0 : Hid (∀ w, Calls Try.prog 27 #[.int .i64 x0, .int .i64 45] w fun e w' => e = .returned (.int .i64 34) ∧ w = w') := fun w => (pickN x0 45 (by decide) (by decide) w).mono (fun _ _ h => ⟨by rw [h.1, h0], h.2⟩)
  clear h0
  obtain ⟨yd, bd, pd⟩ := low_h x1
  obtain ⟨yi, bi, _, pimm⟩ := pickH x4 256 (by decide) (by decide)
  have HRT : Hid (rightS ⟨35, yd, 0, 0, (4 * yi), 0⟩ = true) := Lib.hid (by
    simp [rightS, rowOf, rowOk, rpS, reg, im]
    try omega)
  go_enter Try.func17, Try.ntmps17
  go_wp2_with fail
  refine (p0.out _).mono ?_
  rintro e w' ⟨rfl, rfl⟩
  go_wp2_with fail
  refine (pd.out _).mono ?_
  rintro e w' ⟨rfl, rfl⟩
  go_wp2_with fail
  refine (pimm.out _).mono ?_
  rintro e w' ⟨rfl, rfl⟩
  go_wp2_with fail
  try simp only [Exit.inBlock, Exit.then]
  refine bodyPost_ret (results_cell_row rfl _ _ (w.heap.size + 1) 36 #[.int .i64 35, .int .i64 yd, .int .i64 0, .int .i64 0, .int .i64 (4 * yi), .int .i64 0] (0, 0) _ (by rfl) (blk2 _ _ _ _ _) Try.underlying36 rfl (by rfl)) rfl ?_
  exact ⟨⟨35, yd, 0, 0, (4 * yi), 0⟩, HRT.out, rfl, (((Below.refl _ _).alloc (Nat.le_refl _) _).alloc (by simp) _).alloc (by simp; omega) _⟩
set_option maxHeartbeats 4000000 in
set_option maxRecDepth 100000 in
theorem ins_36 (x0 x1 x2 x3 x4 x5 : Int) (w : World) (h0 : x0 % 45 = 35) : Calls Try.prog 17 #[.agg #[.int .i64 x0, .int .i64 x1, .int .i64 x2, .int .i64 x3, .int .i64 x4, .int .i64 x5]] w (InsAt w) := by
  have p0 : Hid (∀ w, Calls Try.prog 27 #[.int .i64 x0, .int .i64 45] w fun e w' => e = .returned (.int .i64 35) ∧ w = w') := fun w => (pickN x0 45 (by decide) (by decide) w).mono (fun _ _ h => ⟨by rw [h.1, h0], h.2⟩)
  clear h0
  obtain ⟨yd, bd, pd⟩ := low_h x1
  obtain ⟨yi, bi, _, pimm⟩ := pickH x4 256 (by decide) (by decide)
  have HRT : Hid (rightS ⟨36, yd, 0, 0, (4 * yi), 0⟩ = true) := Lib.hid (by
    simp [rightS, rowOf, rowOk, rpS, reg, im]
    try omega)
  go_enter Try.func17, Try.ntmps17
  go_wp2_with fail
  refine (p0.out _).mono ?_
  rintro e w' ⟨rfl, rfl⟩
  go_wp2_with fail
  refine (pd.out _).mono ?_
  rintro e w' ⟨rfl, rfl⟩
  go_wp2_with fail
  refine (pimm.out _).mono ?_
  rintro e w' ⟨rfl, rfl⟩
  go_wp2_with fail
  try simp only [Exit.inBlock, Exit.then]
  refine bodyPost_ret (results_cell_row rfl _ _ (w.heap.size + 1) 36 #[.int .i64 36, .int .i64 yd, .int .i64 0, .int .i64 0, .int .i64 (4 * yi), .int .i64 0] (0, 0) _ (by rfl) (blk2 _ _ _ _ _) Try.underlying36 rfl (by rfl)) rfl ?_
  exact ⟨⟨36, yd, 0, 0, (4 * yi), 0⟩, HRT.out, rfl, (((Below.refl _ _).alloc (Nat.le_refl _) _).alloc (by simp) _).alloc (by simp; omega) _⟩
set_option maxHeartbeats 4000000 in
set_option maxRecDepth 100000 in
theorem ins_37 (x0 x1 x2 x3 x4 x5 : Int) (w : World) (h0 : x0 % 45 = 36) : Calls Try.prog 17 #[.agg #[.int .i64 x0, .int .i64 x1, .int .i64 x2, .int .i64 x3, .int .i64 x4, .int .i64 x5]] w (InsAt w) := by
  have p0 : Hid (∀ w, Calls Try.prog 27 #[.int .i64 x0, .int .i64 45] w fun e w' => e = .returned (.int .i64 36) ∧ w = w') := fun w => (pickN x0 45 (by decide) (by decide) w).mono (fun _ _ h => ⟨by rw [h.1, h0], h.2⟩)
  clear h0
  obtain ⟨yi, bi, _, pimm⟩ := pickH x4 128 (by decide) (by decide)
  have HRT : Hid (rightS ⟨37, 0, 0, 0, (4 * yi), 0⟩ = true) := Lib.hid (by
    simp [rightS, rowOf, rowOk, rpS, im]
    try omega)
  go_enter Try.func17, Try.ntmps17
  go_wp2_with fail
  refine (p0.out _).mono ?_
  rintro e w' ⟨rfl, rfl⟩
  go_wp2_with fail
  refine (pimm.out _).mono ?_
  rintro e w' ⟨rfl, rfl⟩
  go_wp2_with fail
  try simp only [Exit.inBlock, Exit.then]
  refine bodyPost_ret (results_cell_row rfl _ _ (w.heap.size + 1) 36 #[.int .i64 37, .int .i64 0, .int .i64 0, .int .i64 0, .int .i64 (4 * yi), .int .i64 0] (0, 0) _ (by rfl) (blk2 _ _ _ _ _) Try.underlying36 rfl (by rfl)) rfl ?_
  exact ⟨⟨37, 0, 0, 0, (4 * yi), 0⟩, HRT.out, rfl, (((Below.refl _ _).alloc (Nat.le_refl _) _).alloc (by simp) _).alloc (by simp; omega) _⟩
set_option maxHeartbeats 4000000 in
set_option maxRecDepth 100000 in
theorem ins_38 (x0 x1 x2 x3 x4 x5 : Int) (w : World) (h0 : x0 % 45 = 37) : Calls Try.prog 17 #[.agg #[.int .i64 x0, .int .i64 x1, .int .i64 x2, .int .i64 x3, .int .i64 x4, .int .i64 x5]] w (InsAt w) := by
  have p0 : Hid (∀ w, Calls Try.prog 27 #[.int .i64 x0, .int .i64 45] w fun e w' => e = .returned (.int .i64 37) ∧ w = w') := fun w => (pickN x0 45 (by decide) (by decide) w).mono (fun _ _ h => ⟨by rw [h.1, h0], h.2⟩)
  clear h0
  obtain ⟨yi, bi, _, pimm⟩ := pickH x4 128 (by decide) (by decide)
  have HRT : Hid (rightS ⟨38, 0, 0, 0, (4 * yi), 0⟩ = true) := Lib.hid (by
    simp [rightS, rowOf, rowOk, rpS, im]
    try omega)
  go_enter Try.func17, Try.ntmps17
  go_wp2_with fail
  refine (p0.out _).mono ?_
  rintro e w' ⟨rfl, rfl⟩
  go_wp2_with fail
  refine (pimm.out _).mono ?_
  rintro e w' ⟨rfl, rfl⟩
  go_wp2_with fail
  try simp only [Exit.inBlock, Exit.then]
  refine bodyPost_ret (results_cell_row rfl _ _ (w.heap.size + 1) 36 #[.int .i64 38, .int .i64 0, .int .i64 0, .int .i64 0, .int .i64 (4 * yi), .int .i64 0] (0, 0) _ (by rfl) (blk2 _ _ _ _ _) Try.underlying36 rfl (by rfl)) rfl ?_
  exact ⟨⟨38, 0, 0, 0, (4 * yi), 0⟩, HRT.out, rfl, (((Below.refl _ _).alloc (Nat.le_refl _) _).alloc (by simp) _).alloc (by simp; omega) _⟩
set_option maxHeartbeats 4000000 in
set_option maxRecDepth 100000 in
theorem ins_39 (x0 x1 x2 x3 x4 x5 : Int) (w : World) (h0 : x0 % 45 = 38) : Calls Try.prog 17 #[.agg #[.int .i64 x0, .int .i64 x1, .int .i64 x2, .int .i64 x3, .int .i64 x4, .int .i64 x5]] w (InsAt w) := by
  have p0 : Hid (∀ w, Calls Try.prog 27 #[.int .i64 x0, .int .i64 45] w fun e w' => e = .returned (.int .i64 38) ∧ w = w') := fun w => (pickN x0 45 (by decide) (by decide) w).mono (fun _ _ h => ⟨by rw [h.1, h0], h.2⟩)
  clear h0
  obtain ⟨yi, bi, _, pimm⟩ := pickH x4 511 (by decide) (by decide)
  have HRT : Hid (rightS ⟨39, 0, 0, 0, (1 + yi), 0⟩ = true) := Lib.hid (by
    simp [rightS, rowOf, rowOk, rpS, im]
    try omega)
  go_enter Try.func17, Try.ntmps17
  go_wp2_with fail
  refine (p0.out _).mono ?_
  rintro e w' ⟨rfl, rfl⟩
  go_wp2_with fail
  refine (pimm.out _).mono ?_
  rintro e w' ⟨rfl, rfl⟩
  go_wp2_with fail
  try simp only [Exit.inBlock, Exit.then]
  refine bodyPost_ret (results_cell_row rfl _ _ (w.heap.size + 1) 36 #[.int .i64 39, .int .i64 0, .int .i64 0, .int .i64 0, .int .i64 (1 + yi), .int .i64 0] (0, 0) _ (by rfl) (blk2 _ _ _ _ _) Try.underlying36 rfl (by rfl)) rfl ?_
  exact ⟨⟨39, 0, 0, 0, (1 + yi), 0⟩, HRT.out, rfl, (((Below.refl _ _).alloc (Nat.le_refl _) _).alloc (by simp) _).alloc (by simp; omega) _⟩
set_option maxHeartbeats 4000000 in
set_option maxRecDepth 100000 in
theorem ins_40 (x0 x1 x2 x3 x4 x5 : Int) (w : World) (h0 : x0 % 45 = 39) : Calls Try.prog 17 #[.agg #[.int .i64 x0, .int .i64 x1, .int .i64 x2, .int .i64 x3, .int .i64 x4, .int .i64 x5]] w (InsAt w) := by
  have p0 : Hid (∀ w, Calls Try.prog 27 #[.int .i64 x0, .int .i64 45] w fun e w' => e = .returned (.int .i64 39) ∧ w = w') := fun w => (pickN x0 45 (by decide) (by decide) w).mono (fun _ _ h => ⟨by rw [h.1, h0], h.2⟩)
  clear h0
  obtain ⟨yi, bi, _, pimm⟩ := pickH x4 511 (by decide) (by decide)
  have HRT : Hid (rightS ⟨40, 0, 0, 0, (1 + yi), 0⟩ = true) := Lib.hid (by
    simp [rightS, rowOf, rowOk, rpS, im]
    try omega)
  go_enter Try.func17, Try.ntmps17
  go_wp2_with fail
  refine (p0.out _).mono ?_
  rintro e w' ⟨rfl, rfl⟩
  go_wp2_with fail
  refine (pimm.out _).mono ?_
  rintro e w' ⟨rfl, rfl⟩
  go_wp2_with fail
  try simp only [Exit.inBlock, Exit.then]
  refine bodyPost_ret (results_cell_row rfl _ _ (w.heap.size + 1) 36 #[.int .i64 40, .int .i64 0, .int .i64 0, .int .i64 0, .int .i64 (1 + yi), .int .i64 0] (0, 0) _ (by rfl) (blk2 _ _ _ _ _) Try.underlying36 rfl (by rfl)) rfl ?_
  exact ⟨⟨40, 0, 0, 0, (1 + yi), 0⟩, HRT.out, rfl, (((Below.refl _ _).alloc (Nat.le_refl _) _).alloc (by simp) _).alloc (by simp; omega) _⟩
set_option maxHeartbeats 4000000 in
set_option maxRecDepth 100000 in
theorem ins_41 (x0 x1 x2 x3 x4 x5 : Int) (w : World) (h0 : x0 % 45 = 40) : Calls Try.prog 17 #[.agg #[.int .i64 x0, .int .i64 x1, .int .i64 x2, .int .i64 x3, .int .i64 x4, .int .i64 x5]] w (InsAt w) := by
  have p0 : Hid (∀ w, Calls Try.prog 27 #[.int .i64 x0, .int .i64 45] w fun e w' => e = .returned (.int .i64 40) ∧ w = w') := fun w => (pickN x0 45 (by decide) (by decide) w).mono (fun _ _ h => ⟨by rw [h.1, h0], h.2⟩)
  clear h0
  obtain ⟨yi, bi, _, pimm⟩ := pickH x4 40 (by decide) (by decide)
  obtain ⟨yc, bc, _, pcond⟩ := pickH x5 14 (by decide) (by decide)
  have HRT : Hid (rightS ⟨41, 0, 0, 0, (2 * yi - 40), yc⟩ = true) := Lib.hid (by
    have ht : (2 * yi - 40).tmod 2 = 0 := by rw [show (2 * yi - 40 : Int) = 2 * (yi - 20) by omega]; exact Int.mul_tmod_right _ _
    simp [rightS, rowOf, rowOk, rpS, im, ht]
    try omega)
  go_enter Try.func17, Try.ntmps17
  go_wp2_with fail
  refine (p0.out _).mono ?_
  rintro e w' ⟨rfl, rfl⟩
  go_wp2_with fail
  refine (pcond.out _).mono ?_
  rintro e w' ⟨rfl, rfl⟩
  go_wp2_with fail
  refine (pimm.out _).mono ?_
  rintro e w' ⟨rfl, rfl⟩
  go_wp2_with fail
  try simp only [Exit.inBlock, Exit.then]
  refine bodyPost_ret (results_cell_row rfl _ _ (w.heap.size + 1) 36 #[.int .i64 41, .int .i64 0, .int .i64 0, .int .i64 0, .int .i64 (2 * yi - 40), .int .i64 yc] (0, 0) _ (by rfl) (blk2 _ _ _ _ _) Try.underlying36 rfl (by rfl)) rfl ?_
  exact ⟨⟨41, 0, 0, 0, (2 * yi - 40), yc⟩, HRT.out, rfl, (((Below.refl _ _).alloc (Nat.le_refl _) _).alloc (by simp) _).alloc (by simp; omega) _⟩
set_option maxHeartbeats 4000000 in
set_option maxRecDepth 100000 in
theorem ins_42 (x0 x1 x2 x3 x4 x5 : Int) (w : World) (h0 : x0 % 45 = 41) : Calls Try.prog 17 #[.agg #[.int .i64 x0, .int .i64 x1, .int .i64 x2, .int .i64 x3, .int .i64 x4, .int .i64 x5]] w (InsAt w) := by
  have p0 : Hid (∀ w, Calls Try.prog 27 #[.int .i64 x0, .int .i64 45] w fun e w' => e = .returned (.int .i64 41) ∧ w = w') := fun w => (pickN x0 45 (by decide) (by decide) w).mono (fun _ _ h => ⟨by rw [h.1, h0], h.2⟩)
  clear h0
  obtain ⟨yi, bi, _, pimm⟩ := pickH x4 40 (by decide) (by decide)
  have HRT : Hid (rightS ⟨42, 0, 0, 0, (2 * yi - 40), 0⟩ = true) := Lib.hid (by
    have ht : (2 * yi - 40).tmod 2 = 0 := by rw [show (2 * yi - 40 : Int) = 2 * (yi - 20) by omega]; exact Int.mul_tmod_right _ _
    simp [rightS, rowOf, rowOk, rpS, im, ht]
    try omega)
  go_enter Try.func17, Try.ntmps17
  go_wp2_with fail
  refine (p0.out _).mono ?_
  rintro e w' ⟨rfl, rfl⟩
  go_wp2_with fail
  refine (pimm.out _).mono ?_
  rintro e w' ⟨rfl, rfl⟩
  go_wp2_with fail
  try simp only [Exit.inBlock, Exit.then]
  refine bodyPost_ret (results_cell_row rfl _ _ (w.heap.size + 1) 36 #[.int .i64 42, .int .i64 0, .int .i64 0, .int .i64 0, .int .i64 (2 * yi - 40), .int .i64 0] (0, 0) _ (by rfl) (blk2 _ _ _ _ _) Try.underlying36 rfl (by rfl)) rfl ?_
  exact ⟨⟨42, 0, 0, 0, (2 * yi - 40), 0⟩, HRT.out, rfl, (((Below.refl _ _).alloc (Nat.le_refl _) _).alloc (by simp) _).alloc (by simp; omega) _⟩
set_option maxHeartbeats 4000000 in
set_option maxRecDepth 100000 in
theorem ins_43 (x0 x1 x2 x3 x4 x5 : Int) (w : World) (h0 : x0 % 45 = 42) : Calls Try.prog 17 #[.agg #[.int .i64 x0, .int .i64 x1, .int .i64 x2, .int .i64 x3, .int .i64 x4, .int .i64 x5]] w (InsAt w) := by
  have p0 : Hid (∀ w, Calls Try.prog 27 #[.int .i64 x0, .int .i64 45] w fun e w' => e = .returned (.int .i64 42) ∧ w = w') := fun w => (pickN x0 45 (by decide) (by decide) w).mono (fun _ _ h => ⟨by rw [h.1, h0], h.2⟩)
  clear h0
  obtain ⟨yi, bi, _, pimm⟩ := pickH x4 40 (by decide) (by decide)
  have HRT : Hid (rightS ⟨43, 0, 0, 0, (2 * yi - 40), 0⟩ = true) := Lib.hid (by
    have ht : (2 * yi - 40).tmod 2 = 0 := by rw [show (2 * yi - 40 : Int) = 2 * (yi - 20) by omega]; exact Int.mul_tmod_right _ _
    simp [rightS, ht]
    try omega)
  go_enter Try.func17, Try.ntmps17
  go_wp2_with fail
  refine (p0.out _).mono ?_
  rintro e w' ⟨rfl, rfl⟩
  go_wp2_with fail
  refine (pimm.out _).mono ?_
  rintro e w' ⟨rfl, rfl⟩
  go_wp2_with fail
  try simp only [Exit.inBlock, Exit.then]
  refine bodyPost_ret (results_cell_row rfl _ _ (w.heap.size + 1) 36 #[.int .i64 43, .int .i64 0, .int .i64 0, .int .i64 0, .int .i64 (2 * yi - 40), .int .i64 0] (0, 0) _ (by rfl) (blk2 _ _ _ _ _) Try.underlying36 rfl (by rfl)) rfl ?_
  exact ⟨⟨43, 0, 0, 0, (2 * yi - 40), 0⟩, HRT.out, rfl, (((Below.refl _ _).alloc (Nat.le_refl _) _).alloc (by simp) _).alloc (by simp; omega) _⟩
set_option maxHeartbeats 4000000 in
set_option maxRecDepth 100000 in
theorem ins_44 (x0 x1 x2 x3 x4 x5 : Int) (w : World) (h0 : x0 % 45 = 43) : Calls Try.prog 17 #[.agg #[.int .i64 x0, .int .i64 x1, .int .i64 x2, .int .i64 x3, .int .i64 x4, .int .i64 x5]] w (InsAt w) := by
  have p0 : Hid (∀ w, Calls Try.prog 27 #[.int .i64 x0, .int .i64 45] w fun e w' => e = .returned (.int .i64 43) ∧ w = w') := fun w => (pickN x0 45 (by decide) (by decide) w).mono (fun _ _ h => ⟨by rw [h.1, h0], h.2⟩)
  clear h0
  obtain ⟨yi, bi, _, pimm⟩ := pickH x4 256 (by decide) (by decide)
  have HRT : Hid (rightS ⟨44, 0, 0, 0, yi, 0⟩ = true) := Lib.hid (by
    simp [rightS, rowOf, rowOk, rpS, im]
    try omega)
  go_enter Try.func17, Try.ntmps17
  go_wp2_with fail
  refine (p0.out _).mono ?_
  rintro e w' ⟨rfl, rfl⟩
  go_wp2_with fail
  refine (pimm.out _).mono ?_
  rintro e w' ⟨rfl, rfl⟩
  go_wp2_with fail
  try simp only [Exit.inBlock, Exit.then]
  refine bodyPost_ret (results_cell_row rfl _ _ (w.heap.size + 1) 36 #[.int .i64 44, .int .i64 0, .int .i64 0, .int .i64 0, .int .i64 yi, .int .i64 0] (0, 0) _ (by rfl) (blk2 _ _ _ _ _) Try.underlying36 rfl (by rfl)) rfl ?_
  exact ⟨⟨44, 0, 0, 0, yi, 0⟩, HRT.out, rfl, (((Below.refl _ _).alloc (Nat.le_refl _) _).alloc (by simp) _).alloc (by simp; omega) _⟩
set_option maxHeartbeats 4000000 in
set_option maxRecDepth 100000 in
theorem ins_45 (x0 x1 x2 x3 x4 x5 : Int) (w : World) (h0 : x0 % 45 = 44) : Calls Try.prog 17 #[.agg #[.int .i64 x0, .int .i64 x1, .int .i64 x2, .int .i64 x3, .int .i64 x4, .int .i64 x5]] w (InsAt w) := by
  have p0 : Hid (∀ w, Calls Try.prog 27 #[.int .i64 x0, .int .i64 45] w fun e w' => e = .returned (.int .i64 44) ∧ w = w') := fun w => (pickN x0 45 (by decide) (by decide) w).mono (fun _ _ h => ⟨by rw [h.1, h0], h.2⟩)
  clear h0
  have HRT : Hid (rightS ⟨45, 0, 0, 0, 0, 0⟩ = true) := Lib.hid (by
    simp [rightS, rowOf, rowOk, rpS]
    try omega)
  go_enter Try.func17, Try.ntmps17
  go_wp2_with fail
  refine (p0.out _).mono ?_
  rintro e w' ⟨rfl, rfl⟩
  go_wp2_with fail
  try simp only [Exit.inBlock, Exit.then]
  refine bodyPost_ret (results_cell_row rfl _ _ (w.heap.size + 1) 36 #[.int .i64 45, .int .i64 0, .int .i64 0, .int .i64 0, .int .i64 0, .int .i64 0] (0, 0) _ (by rfl) (blk2 _ _ _ _ _) Try.underlying36 rfl (by rfl)) rfl ?_
  exact ⟨⟨45, 0, 0, 0, 0, 0⟩, HRT.out, rfl, (((Below.refl _ _).alloc (Nat.le_refl _) _).alloc (by simp) _).alloc (by simp; omega) _⟩
end Go.Proofs.Ytpihjhfaeloapaa
namespace Go.Proofs.Ytpihjhfaeloapaa
open Go.RowKit On Th
theorem ins_c (x0 x1 x2 x3 x4 x5 : Int) (w : World) : Calls Try.prog 17 #[.agg #[.int .i64 x0, .int .i64 x1, .int .i64 x2, .int .i64 x3, .int .i64 x4, .int .i64 x5]] w (InsAt w) := by
  have h : x0 % 45 = 0 ∨ x0 % 45 = 1 ∨ x0 % 45 = 2 ∨ x0 % 45 = 3 ∨ x0 % 45 = 4 ∨ x0 % 45 = 5 ∨ x0 % 45 = 6 ∨ x0 % 45 = 7 ∨ x0 % 45 = 8 ∨ x0 % 45 = 9 ∨ x0 % 45 = 10 ∨ x0 % 45 = 11 ∨ x0 % 45 = 12 ∨ x0 % 45 = 13 ∨ x0 % 45 = 14 ∨ x0 % 45 = 15 ∨ x0 % 45 = 16 ∨ x0 % 45 = 17 ∨ x0 % 45 = 18 ∨ x0 % 45 = 19 ∨ x0 % 45 = 20 ∨ x0 % 45 = 21 ∨ x0 % 45 = 22 ∨ x0 % 45 = 23 ∨ x0 % 45 = 24 ∨ x0 % 45 = 25 ∨ x0 % 45 = 26 ∨ x0 % 45 = 27 ∨ x0 % 45 = 28 ∨ x0 % 45 = 29 ∨ x0 % 45 = 30 ∨ x0 % 45 = 31 ∨ x0 % 45 = 32 ∨ x0 % 45 = 33 ∨ x0 % 45 = 34 ∨ x0 % 45 = 35 ∨ x0 % 45 = 36 ∨ x0 % 45 = 37 ∨ x0 % 45 = 38 ∨ x0 % 45 = 39 ∨ x0 % 45 = 40 ∨ x0 % 45 = 41 ∨ x0 % 45 = 42 ∨ x0 % 45 = 43 ∨ x0 % 45 = 44 := by omega
  rcases h with h | h | h | h | h | h | h | h | h | h | h | h | h | h | h | h | h | h | h | h | h | h | h | h | h | h | h | h | h | h | h | h | h | h | h | h | h | h | h | h | h | h | h | h | h
  · exact ins_1 x0 x1 x2 x3 x4 x5 w h
  · exact ins_2 x0 x1 x2 x3 x4 x5 w h
  · exact ins_3 x0 x1 x2 x3 x4 x5 w h
  · exact ins_4 x0 x1 x2 x3 x4 x5 w h
  · exact ins_5 x0 x1 x2 x3 x4 x5 w h
  · exact ins_6 x0 x1 x2 x3 x4 x5 w h
  · exact ins_7 x0 x1 x2 x3 x4 x5 w h
  · exact ins_8 x0 x1 x2 x3 x4 x5 w h
  · exact ins_9 x0 x1 x2 x3 x4 x5 w h
  · exact ins_10 x0 x1 x2 x3 x4 x5 w h
  · exact ins_11 x0 x1 x2 x3 x4 x5 w h
  · exact ins_12 x0 x1 x2 x3 x4 x5 w h
  · exact ins_13 x0 x1 x2 x3 x4 x5 w h
  · exact ins_14 x0 x1 x2 x3 x4 x5 w h
  · exact ins_15 x0 x1 x2 x3 x4 x5 w h
  · exact ins_16 x0 x1 x2 x3 x4 x5 w h
  · exact ins_17 x0 x1 x2 x3 x4 x5 w h
  · exact ins_18 x0 x1 x2 x3 x4 x5 w h
  · exact ins_19 x0 x1 x2 x3 x4 x5 w h
  · exact ins_20 x0 x1 x2 x3 x4 x5 w h
  · exact ins_21 x0 x1 x2 x3 x4 x5 w h
  · exact ins_22 x0 x1 x2 x3 x4 x5 w h
  · exact ins_23 x0 x1 x2 x3 x4 x5 w h
  · exact ins_24 x0 x1 x2 x3 x4 x5 w h
  · exact ins_25 x0 x1 x2 x3 x4 x5 w h
  · exact ins_26 x0 x1 x2 x3 x4 x5 w h
  · exact ins_27 x0 x1 x2 x3 x4 x5 w h
  · exact ins_28 x0 x1 x2 x3 x4 x5 w h
  · exact ins_29 x0 x1 x2 x3 x4 x5 w h
  · exact ins_30 x0 x1 x2 x3 x4 x5 w h
  · exact ins_31 x0 x1 x2 x3 x4 x5 w h
  · exact ins_32 x0 x1 x2 x3 x4 x5 w h
  · exact ins_33 x0 x1 x2 x3 x4 x5 w h
  · exact ins_34 x0 x1 x2 x3 x4 x5 w h
  · exact ins_35 x0 x1 x2 x3 x4 x5 w h
  · exact ins_36 x0 x1 x2 x3 x4 x5 w h
  · exact ins_37 x0 x1 x2 x3 x4 x5 w h
  · exact ins_38 x0 x1 x2 x3 x4 x5 w h
  · exact ins_39 x0 x1 x2 x3 x4 x5 w h
  · exact ins_40 x0 x1 x2 x3 x4 x5 w h
  · exact ins_41 x0 x1 x2 x3 x4 x5 w h
  · exact ins_42 x0 x1 x2 x3 x4 x5 w h
  · exact ins_43 x0 x1 x2 x3 x4 x5 w h
  · exact ins_44 x0 x1 x2 x3 x4 x5 w h
  · exact ins_45 x0 x1 x2 x3 x4 x5 w h
end Go.Proofs.Ytpihjhfaeloapaa
