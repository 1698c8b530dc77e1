/- MERGED by mergev.py: XQi XQi1 XQi2. -/
import Derived.Test.YtpihjhfaeloapaaVb
import Derived.Test.YtpihjhfaeloapaaVa
import Derived.Lib.Hide
import Derived.Deep.RegionHeld3
import Derived.Deep.DeepCutAuto
namespace Go.Proofs.Ytpihjhfaeloapaa
open Go.RowKit On Th
/-- some instruction that may be -/
def InsAt (w : World) (e : Ending) (w' : World) : Prop := ∃ i : Ins, rightS i = true ∧ e = .returned (.agg #[.int .i64 i.op, .int .i64 i.d, .int .i64 i.n, .int .i64 i.m, .int .i64 i.imm, .int .i64 i.cond]) ∧ Below w.heap.size w w'
theorem pickH (x m : Int) (hm : 0 < m) (hm2 : m ≤ 1000000) : ∃ y, (0 ≤ y ∧ y < m) ∧ x % m = y ∧ Hid (∀ w, Calls Try.prog 27 #[.int .i64 x, .int .i64 m] w fun e w' => e = .returned (.int .i64 y) ∧ w = w') :=
  ⟨x % m, ⟨Int.emod_nonneg _ (by omega), Int.emod_lt_of_pos _ hm⟩, rfl, fun w => pickN x m hm (by omega) w⟩
def T9 : Array Value := #[.int .i64 0, .int .i64 1, .int .i64 2, .int .i64 7, .int .i64 8, .int .i64 9, .int .i64 12, .int .i64 14, .int .i64 3]
theorem ix9 (y z : Int) (hy : 0 ≤ y ∧ y < 9) (hz : T9[y.toNat]? = some (.int .i64 z)) (w : World) : (Instr.index 82 (.agg T9) (.int .i64 y)).run Try.prog w = .ok (.int .i64 z) w := by
  have hu : Try.prog.underlying 82 = some (.array 9 3) := by kernel_rfl
  obtain ⟨h0, h1⟩ := hy
  simp [Instr.index, run_underlying hu, asIntOf, h0, h1, hz, go_sem]
theorem blk2 (w : World) (o o2 : Obj) (t : TypeId) (cs : Array Value) : Blk (((w.alloc o).alloc (.cells cs t)).alloc o2) (w.heap.size + 1) t cs := by
  have := (Blk.new (w.alloc o) t cs).alloc o2
  rwa [World.size_alloc] at this
theorem low_h (x : Int) : ∃ y, (0 ≤ y ∧ y < 8) ∧ Hid (∀ w, Calls Try.prog 32 #[.int .i64 x] w fun e w' => e = .returned (.int .i64 y) ∧ w = w') := by
  obtain ⟨y, hy, _, hp⟩ := pickH x 8 (by decide) (by decide)
  refine ⟨y, hy, fun w => ?_⟩
  clear hy
  go_enter Try.func32, Try.ntmps32
  go_wp2_with fail
  refine (hp.out _).mono ?_
  rintro e w' ⟨rfl, rfl⟩
  go_wp2_with fail
  go_ret
  exact ⟨rfl, rfl⟩
end Go.Proofs.Ytpihjhfaeloapaa
namespace Go.Proofs.Ytpihjhfaeloapaa
open Go.RowKit On Th
set_option maxHeartbeats 4000000 in
set_option maxRecDepth 100000 in
theorem ins_1 (x0 x1 x2 x3 x4 x5 : Int) (w : World) (h0 : x0 % 45 = 0) : Calls Try.prog 17 #[.agg #[.int .i64 x0, .int .i64 x1, .int .i64 x2, .int .i64 x3, .int .i64 x4, .int .i64 x5]] w (InsAt w) := by
  have p0 : Hid (∀ w, Calls Try.prog 27 #[.int .i64 x0, .int .i64 45] w fun e w' => e = .returned (.int .i64 0) ∧ w = w') := fun w => (pickN x0 45 (by decide) (by decide) w).mono (fun _ _ h => ⟨by rw [h.1, h0], h.2⟩)
  clear h0
  obtain ⟨yd, bd, pd⟩ := low_h x1
  obtain ⟨ym, bm, pm⟩ := low_h x3
  obtain ⟨yi, bi, _, pimm⟩ := pickH x4 32 (by decide) (by decide)
  have HRT : Hid (rightS ⟨1, yd, 0, ym, yi, 0⟩ = true) := Lib.hid (by
    simp [rightS, rowOf, rowOk, rpS, reg, im]
    try omega)
  go_enter Try.func17, Try.ntmps17
  go_wp2_with fail
  refine (p0.out _).mono ?_
  rintro e w' ⟨rfl, rfl⟩
  go_wp2_with fail
  refine (pd.out _).mono ?_
  rintro e w' ⟨rfl, rfl⟩
  go_wp2_with fail
  refine (pm.out _).mono ?_
  rintro e w' ⟨rfl, rfl⟩
  go_wp2_with fail
  refine (pimm.out _).mono ?_
  rintro e w' ⟨rfl, rfl⟩
  go_wp2_with fail
  try simp only [Exit.inBlock, Exit.then]
  refine bodyPost_ret (results_cell_row rfl _ _ (w.heap.size + 1) 36 #[.int .i64 1, .int .i64 yd, .int .i64 0, .int .i64 ym, .int .i64 yi, .int .i64 0] (0, 0) _ (by rfl) (blk2 _ _ _ _ _) Try.underlying36 rfl (by rfl)) rfl ?_
  exact ⟨⟨1, yd, 0, ym, yi, 0⟩, HRT.out, rfl, (((Below.refl _ _).alloc (Nat.le_refl _) _).alloc (by simp) _).alloc (by simp; omega) _⟩
set_option maxHeartbeats 4000000 in
set_option maxRecDepth 100000 in
theorem ins_2 (x0 x1 x2 x3 x4 x5 : Int) (w : World) (h0 : x0 % 45 = 1) : Calls Try.prog 17 #[.agg #[.int .i64 x0, .int .i64 x1, .int .i64 x2, .int .i64 x3, .int .i64 x4, .int .i64 x5]] w (InsAt w) := by
  have p0 : Hid (∀ w, Calls Try.prog 27 #[.int .i64 x0, .int .i64 45] w fun e w' => e = .returned (.int .i64 1) ∧ w = w') := fun w => (pickN x0 45 (by decide) (by decide) w).mono (fun _ _ h => ⟨by rw [h.1, h0], h.2⟩)
  clear h0
  obtain ⟨yd, bd, pd⟩ := low_h x1
  obtain ⟨ym, bm, pm⟩ := low_h x3
  obtain ⟨yi, bi, _, pimm⟩ := pickH x4 32 (by decide) (by decide)
  have HRT : Hid (rightS ⟨2, yd, 0, ym, (yi + 1), 0⟩ = true) := Lib.hid (by
    simp [rightS, rowOf, rowOk, rpS, reg, im]
    try omega)
  go_enter Try.func17, Try.ntmps17
  go_wp2_with fail
  refine (p0.out _).mono ?_
  rintro e w' ⟨rfl, rfl⟩
  go_wp2_with fail
  refine (pd.out _).mono ?_
  rintro e w' ⟨rfl, rfl⟩
  go_wp2_with fail
  refine (pm.out _).mono ?_
  rintro e w' ⟨rfl, rfl⟩
  go_wp2_with fail
  refine (pimm.out _).mono ?_
  rintro e w' ⟨rfl, rfl⟩
  go_wp2_with fail
  try simp only [Exit.inBlock, Exit.then]
  refine bodyPost_ret (results_cell_row rfl _ _ (w.heap.size + 1) 36 #[.int .i64 2, .int .i64 yd, .int .i64 0, .int .i64 ym, .int .i64 (yi + 1), .int .i64 0] (0, 0) _ (by rfl) (blk2 _ _ _ _ _) Try.underlying36 rfl (by rfl)) rfl ?_
  exact ⟨⟨2, yd, 0, ym, (yi + 1), 0⟩, HRT.out, rfl, (((Below.refl _ _).alloc (Nat.le_refl _) _).alloc (by simp) _).alloc (by simp; omega) _⟩
set_option maxHeartbeats 4000000 in
set_option maxRecDepth 100000 in
theorem ins_3 (x0 x1 x2 x3 x4 x5 : Int) (w : World) (h0 : x0 % 45 = 2) : Calls Try.prog 17 #[.agg #[.int .i64 x0, .int .i64 x1, .int .i64 x2, .int .i64 x3, .int .i64 x4, .int .i64 x5]] w (InsAt w) := by
  have p0 : Hid (∀ w, Calls Try.prog 27 #[.int .i64 x0, .int .i64 45] w fun e w' => e = .returned (.int .i64 2) ∧ w = w') := fun w => (pickN x0 45 (by decide) (by decide) w).mono (fun _ _ h => ⟨by rw [h.1, h0], h.2⟩)
  clear h0
  obtain ⟨yd, bd, pd⟩ := low_h x1
  obtain ⟨ym, bm, pm⟩ := low_h x3
  obtain ⟨yi, bi, _, pimm⟩ := pickH x4 32 (by decide) (by decide)
  have HRT : Hid (rightS ⟨3, yd, 0, ym, (yi + 1), 0⟩ = true) := Lib.hid (by
    simp [rightS, rowOf, rowOk, rpS, reg, im]
    try omega)
  go_enter Try.func17, Try.ntmps17
  go_wp2_with fail
  refine (p0.out _).mono ?_
  rintro e w' ⟨rfl, rfl⟩
  go_wp2_with fail
  refine (pd.out _).mono ?_
  rintro e w' ⟨rfl, rfl⟩
  go_wp2_with fail
  refine (pm.out _).mono ?_
  rintro e w' ⟨rfl, rfl⟩
  go_wp2_with fail
  refine (pimm.out _).mono ?_
  rintro e w' ⟨rfl, rfl⟩
  go_wp2_with fail
  try simp only [Exit.inBlock, Exit.then]
  refine bodyPost_ret (results_cell_row rfl _ _ (w.heap.size + 1) 36 #[.int .i64 3, .int .i64 yd, .int .i64 0, .int .i64 ym, .int .i64 (yi + 1), .int .i64 0] (0, 0) _ (by rfl) (blk2 _ _ _ _ _) Try.underlying36 rfl (by rfl)) rfl ?_
  exact ⟨⟨3, yd, 0, ym, (yi + 1), 0⟩, HRT.out, rfl, (((Below.refl _ _).alloc (Nat.le_refl _) _).alloc (by simp) _).alloc (by simp; omega) _⟩
set_option maxHeartbeats 4000000 in
set_option maxRecDepth 100000 in
theorem ins_4 (x0 x1 x2 x3 x4 x5 : Int) (w : World) (h0 : x0 % 45 = 3) : Calls Try.prog 17 #[.agg #[.int .i64 x0, .int .i64 x1, .int .i64 x2, .int .i64 x3, .int .i64 x4, .int .i64 x5]] w (InsAt w) := by
  have p0 : Hid (∀ w, Calls Try.prog 27 #[.int .i64 x0, .int .i64 45] w fun e w' => e = .returned (.int .i64 3) ∧ w = w') := fun w => (pickN x0 45 (by decide) (by decide) w).mono (fun _ _ h => ⟨by rw [h.1, h0], h.2⟩)
  clear h0
  obtain ⟨yd, bd, pd⟩ := low_h x1
  obtain ⟨yn, bn, pn⟩ := low_h x2
  obtain ⟨ym, bm, pm⟩ := low_h x3
  have HRT : Hid (rightS ⟨4, yd, yn, ym, 0, 0⟩ = true) := Lib.hid (by
    simp [rightS, rowOf, rowOk, rpS, reg]
    try omega)
  go_enter Try.func17, Try.ntmps17
  go_wp2_with fail
  refine (p0.out _).mono ?_
  rintro e w' ⟨rfl, rfl⟩
  go_wp2_with fail
  refine (pd.out _).mono ?_
  rintro e w' ⟨rfl, rfl⟩
  go_wp2_with fail
  refine (pn.out _).mono ?_
  rintro e w' ⟨rfl, rfl⟩
  go_wp2_with fail
  refine (pm.out _).mono ?_
  rintro e w' ⟨rfl, rfl⟩
  go_wp2_with fail
  try simp only [Exit.inBlock, Exit.then]
  refine bodyPost_ret (results_cell_row rfl _ _ (w.heap.size + 1) 36 #[.int .i64 4, .int .i64 yd, .int .i64 yn, .int .i64 ym, .int .i64 0, .int .i64 0] (0, 0) _ (by rfl) (blk2 _ _ _ _ _) Try.underlying36 rfl (by rfl)) rfl ?_
  exact ⟨⟨4, yd, yn, ym, 0, 0⟩, HRT.out, rfl, (((Below.refl _ _).alloc (Nat.le_refl _) _).alloc (by simp) _).alloc (by simp; omega) _⟩
set_option maxHeartbeats 4000000 in
set_option maxRecDepth 100000 in
theorem ins_5 (x0 x1 x2 x3 x4 x5 : Int) (w : World) (h0 : x0 % 45 = 4) : Calls Try.prog 17 #[.agg #[.int .i64 x0, .int .i64 x1, .int .i64 x2, .int .i64 x3, .int .i64 x4, .int .i64 x5]] w (InsAt w) := by
  have p0 : Hid (∀ w, Calls Try.prog 27 #[.int .i64 x0, .int .i64 45] w fun e w' => e = .returned (.int .i64 4) ∧ w = w') := fun w => (pickN x0 45 (by decide) (by decide) w).mono (fun _ _ h => ⟨by rw [h.1, h0], h.2⟩)
  clear h0
  obtain ⟨yd, bd, pd⟩ := low_h x1
  obtain ⟨yn, bn, pn⟩ := low_h x2
  obtain ⟨ym, bm, pm⟩ := low_h x3
  have HRT : Hid (rightS ⟨5, yd, yn, ym, 0, 0⟩ = true) := Lib.hid (by
    simp [rightS, rowOf, rowOk, rpS, reg]
    try omega)
  go_enter Try.func17, Try.ntmps17
  go_wp2_with fail
  refine (p0.out _).mono ?_
  rintro e w' ⟨rfl, rfl⟩
  go_wp2_with fail
  refine (pd.out _).mono ?_
  rintro e w' ⟨rfl, rfl⟩
  go_wp2_with fail
  refine (pn.out _).mono ?_
  rintro e w' ⟨rfl, rfl⟩
  go_wp2_with fail
  refine (pm.out _).mono ?_
  rintro e w' ⟨rfl, rfl⟩
  go_wp2_with fail
  try simp only [Exit.inBlock, Exit.then]
  refine bodyPost_ret (results_cell_row rfl _ _ (w.heap.size + 1) 36 #[.int .i64 5, .int .i64 yd, .int .i64 yn, .int .i64 ym, .int .i64 0, .int .i64 0] (0, 0) _ (by rfl) (blk2 _ _ _ _ _) Try.underlying36 rfl (by rfl)) rfl ?_
  exact ⟨⟨5, yd, yn, ym, 0, 0⟩, HRT.out, rfl, (((Below.refl _ _).alloc (Nat.le_refl _) _).alloc (by simp) _).alloc (by simp; omega) _⟩
set_option maxHeartbeats 4000000 in
set_option maxRecDepth 100000 in
theorem ins_6 (x0 x1 x2 x3 x4 x5 : Int) (w : World) (h0 : x0 % 45 = 5) : Calls Try.prog 17 #[.agg #[.int .i64 x0, .int .i64 x1, .int .i64 x2, .int .i64 x3, .int .i64 x4, .int .i64 x5]] w (InsAt w) := by
  have p0 : Hid (∀ w, Calls Try.prog 27 #[.int .i64 x0, .int .i64 45] w fun e w' => e = .returned (.int .i64 5) ∧ w = w') := fun w => (pickN x0 45 (by decide) (by decide) w).mono (fun _ _ h => ⟨by rw [h.1, h0], h.2⟩)
  clear h0
  obtain ⟨yd, bd, pd⟩ := low_h x1
  obtain ⟨yn, bn, pn⟩ := low_h x2
  obtain ⟨yi, bi, pimm⟩ := low_h x4
  have HRT : Hid (rightS ⟨6, yd, yn, 0, yi, 0⟩ = true) := Lib.hid (by
    simp [rightS, rowOf, rowOk, rpS, reg, im]
    try omega)
  go_enter Try.func17, Try.ntmps17
  go_wp2_with fail
  refine (p0.out _).mono ?_
  rintro e w' ⟨rfl, rfl⟩
  go_wp2_with fail
  refine (pd.out _).mono ?_
  rintro e w' ⟨rfl, rfl⟩
  go_wp2_with fail
  refine (pn.out _).mono ?_
  rintro e w' ⟨rfl, rfl⟩
  go_wp2_with fail
  refine (pimm.out _).mono ?_
  rintro e w' ⟨rfl, rfl⟩
  go_wp2_with fail
  try simp only [Exit.inBlock, Exit.then]
  refine bodyPost_ret (results_cell_row rfl _ _ (w.heap.size + 1) 36 #[.int .i64 6, .int .i64 yd, .int .i64 yn, .int .i64 0, .int .i64 yi, .int .i64 0] (0, 0) _ (by rfl) (blk2 _ _ _ _ _) Try.underlying36 rfl (by rfl)) rfl ?_
  exact ⟨⟨6, yd, yn, 0, yi, 0⟩, HRT.out, rfl, (((Below.refl _ _).alloc (Nat.le_refl _) _).alloc (by simp) _).alloc (by simp; omega) _⟩
set_option maxHeartbeats 4000000 in
set_option maxRecDepth 100000 in
theorem ins_7 (x0 x1 x2 x3 x4 x5 : Int) (w : World) (h0 : x0 % 45 = 6) : Calls Try.prog 17 #[.agg #[.int .i64 x0, .int .i64 x1, .int .i64 x2, .int .i64 x3, .int .i64 x4, .int .i64 x5]] w (InsAt w) := by
  have p0 : Hid (∀ w, Calls Try.prog 27 #[.int .i64 x0, .int .i64 45] w fun e w' => e = .returned (.int .i64 6) ∧ w = w') := fun w => (pickN x0 45 (by decide) (by decide) w).mono (fun _ _ h => ⟨by rw [h.1, h0], h.2⟩)
  clear h0
  obtain ⟨yd, bd, pd⟩ := low_h x1
  obtain ⟨yn, bn, pn⟩ := low_h x2
  obtain ⟨yi, bi, pimm⟩ := low_h x4
  have HRT : Hid (rightS ⟨7, yd, yn, 0, yi, 0⟩ = true) := Lib.hid (by
    simp [rightS, rowOf, rowOk, rpS, reg, im]
    try omega)
  go_enter Try.func17, Try.ntmps17
  go_wp2_with fail
  refine (p0.out _).mono ?_
  rintro e w' ⟨rfl, rfl⟩
  go_wp2_with fail
  refine (pd.out _).mono ?_
  rintro e w' ⟨rfl, rfl⟩
  go_wp2_with fail
  refine (pn.out _).mono ?_
  rintro e w' ⟨rfl, rfl⟩
  go_wp2_with fail
  refine (pimm.out _).mono ?_
  rintro e w' ⟨rfl, rfl⟩
  go_wp2_with fail
  try simp only [Exit.inBlock, Exit.then]
  refine bodyPost_ret (results_cell_row rfl _ _ (w.heap.size + 1) 36 #[.int .i64 7, .int .i64 yd, .int .i64 yn, .int .i64 0, .int .i64 yi, .int .i64 0] (0, 0) _ (by rfl) (blk2 _ _ _ _ _) Try.underlying36 rfl (by rfl)) rfl ?_
  exact ⟨⟨7, yd, yn, 0, yi, 0⟩, HRT.out, rfl, (((Below.refl _ _).alloc (Nat.le_refl _) _).alloc (by simp) _).alloc (by simp; omega) _⟩
set_option maxHeartbeats 4000000 in
set_option maxRecDepth 100000 in
theorem ins_8 (x0 x1 x2 x3 x4 x5 : Int) (w : World) (h0 : x0 % 45 = 7) : Calls Try.prog 17 #[.agg #[.int .i64 x0, .int .i64 x1, .int .i64 x2, .int .i64 x3, .int .i64 x4, .int .i64 x5]] w (InsAt w) := by
  have p0 : Hid (∀ w, Calls Try.prog 27 #[.int .i64 x0, .int .i64 45] w fun e w' => e = .returned (.int .i64 7) ∧ w = w') := fun w => (pickN x0 45 (by decide) (by decide) w).mono (fun _ _ h => ⟨by rw [h.1, h0], h.2⟩)
  clear h0
  obtain ⟨yd, bd, pd⟩ := low_h x1
  obtain ⟨yi, bi, _, pimm⟩ := pickH x4 256 (by decide) (by decide)
  have HRT : Hid (rightS ⟨8, yd, 0, 0, yi, 0⟩ = true) := Lib.hid (by
    simp [rightS, rowOf, rowOk, rpS, reg, im]
    try omega)
  go_enter Try.func17, Try.ntmps17
  go_wp2_with fail
  refine (p0.out _).mono ?_
  rintro e w' ⟨rfl, rfl⟩
  go_wp2_with fail
  refine (pd.out _).mono ?_
  rintro e w' ⟨rfl, rfl⟩
  go_wp2_with fail
  refine (pimm.out _).mono ?_
  rintro e w' ⟨rfl, rfl⟩
  go_wp2_with fail
  try simp only [Exit.inBlock, Exit.then]
  refine bodyPost_ret (results_cell_row rfl _ _ (w.heap.size + 1) 36 #[.int .i64 8, .int .i64 yd, .int .i64 0, .int .i64 0, .int .i64 yi, .int .i64 0] (0, 0) _ (by rfl) (blk2 _ _ _ _ _) Try.underlying36 rfl (by rfl)) rfl ?_
  exact ⟨⟨8, yd, 0, 0, yi, 0⟩, HRT.out, rfl, (((Below.refl _ _).alloc (Nat.le_refl _) _).alloc (by simp) _).alloc (by simp; omega) _⟩
set_option maxHeartbeats 4000000 in
set_option maxRecDepth 100000 in
theorem ins_9 (x0 x1 x2 x3 x4 x5 : Int) (w : World) (h0 : x0 % 45 = 8) : Calls Try.prog 17 #[.agg #[.int .i64 x0, .int .i64 x1, .int .i64 x2, .int .i64 x3, .int .i64 x4, .int .i64 x5]] w (InsAt w) := by
  have p0 : Hid (∀ w, Calls Try.prog 27 #[.int .i64 x0, .int .i64 45] w fun e w' => e = .returned (.int .i64 8) ∧ w = w') := fun w => (pickN x0 45 (by decide) (by decide) w).mono (fun _ _ h => ⟨by rw [h.1, h0], h.2⟩)
  clear h0
  obtain ⟨yd, bd, pd⟩ := low_h x1
  obtain ⟨yi, bi, _, pimm⟩ := pickH x4 256 (by decide) (by decide)
  have HRT : Hid (rightS ⟨9, yd, 0, 0, yi, 0⟩ = true) := Lib.hid (by
    simp [rightS, rowOf, rowOk, rpS, reg, im]
    try omega)
  go_enter Try.func17, Try.ntmps17
  go_wp2_with fail
  refine (p0.out _).mono ?_
  rintro e w' ⟨rfl, rfl⟩
  go_wp2_with fail
  refine (pd.out _).mono ?_
  rintro e w' ⟨rfl, rfl⟩
  go_wp2_with fail
  refine (pimm.out _).mono ?_
  rintro e w' ⟨rfl, rfl⟩
  go_wp2_with fail
  try simp only [Exit.inBlock, Exit.then]
  refine bodyPost_ret (results_cell_row rfl _ _ (w.heap.size + 1) 36 #[.int .i64 9, .int .i64 yd, .int .i64 0, .int .i64 0, .int .i64 yi, .int .i64 0] (0, 0) _ (by rfl) (blk2 _ _ _ _ _) Try.underlying36 rfl (by rfl)) rfl ?_
  exact ⟨⟨9, yd, 0, 0, yi, 0⟩, HRT.out, rfl, (((Below.refl _ _).alloc (Nat.le_refl _) _).alloc (by simp) _).alloc (by simp; omega) _⟩
set_option maxHeartbeats 4000000 in
set_option maxRecDepth 100000 in
theorem ins_10 (x0 x1 x2 x3 x4 x5 : Int) (w : World) (h0 : x0 % 45 = 9) : Calls Try.prog 17 #[.agg #[.int .i64 x0, .int .i64 x1, .int .i64 x2, .int .i64 x3, .int .i64 x4, .int .i64 x5]] w (InsAt w) := by
  have p0 : Hid (∀ w, Calls Try.prog 27 #[.int .i64 x0, .int .i64 45] w fun e w' => e = .returned (.int .i64 9) ∧ w = w') := fun w => (pickN x0 45 (by decide) (by decide) w).mono (fun _ _ h => ⟨by rw [h.1, h0], h.2⟩)
  clear h0
  obtain ⟨yd, bd, pd⟩ := low_h x1
  obtain ⟨yi, bi, _, pimm⟩ := pickH x4 256 (by decide) (by decide)
  have HRT : Hid (rightS ⟨10, yd, 0, 0, yi, 0⟩ = true) := Lib.hid (by
    simp [rightS, rowOf, rowOk, rpS, reg, im]
    try omega)
  go_enter Try.func17, Try.ntmps17
  go_wp2_with fail
  refine (p0.out _).mono ?_
  rintro e w' ⟨rfl, rfl⟩
  go_wp2_with fail
  refine (pd.out _).mono ?_
  rintro e w' ⟨rfl, rfl⟩
  go_wp2_with fail
  refine (pimm.out _).mono ?_
  rintro e w' ⟨rfl, rfl⟩
  go_wp2_with fail
  try simp only [Exit.inBlock, Exit.then]
  refine bodyPost_ret (results_cell_row rfl _ _ (w.heap.size + 1) 36 #[.int .i64 10, .int .i64 yd, .int .i64 0, .int .i64 0, .int .i64 yi, .int .i64 0] (0, 0) _ (by rfl) (blk2 _ _ _ _ _) Try.underlying36 rfl (by rfl)) rfl ?_
  exact ⟨⟨10, yd, 0, 0, yi, 0⟩, HRT.out, rfl, (((Below.refl _ _).alloc (Nat.le_refl _) _).alloc (by simp) _).alloc (by simp; omega) _⟩
set_option maxHeartbeats 4000000 in
set_option maxRecDepth 100000 in
theorem ins_11 (x0 x1 x2 x3 x4 x5 : Int) (w : World) (h0 : x0 % 45 = 10) : Calls Try.prog 17 #[.agg #[.int .i64 x0, .int .i64 x1, .int .i64 x2, .int .i64 x3, .int .i64 x4, .int .i64 x5]] w (InsAt w) := by
  have p0 : Hid (∀ w, Calls Try.prog 27 #[.int .i64 x0, .int .i64 45] w fun e w' => e = .returned (.int .i64 10) ∧ w = w') := fun w => (pickN x0 45 (by decide) (by decide) w).mono (fun _ _ h => ⟨by rw [h.1, h0], h.2⟩)
  clear h0
  obtain ⟨yd, bd, pd⟩ := low_h x1
  obtain ⟨yi, bi, _, pimm⟩ := pickH x4 256 (by decide) (by decide)
  have HRT : Hid (rightS ⟨11, yd, 0, 0, yi, 0⟩ = true) := Lib.hid (by
    simp [rightS, rowOf, rowOk, rpS, reg, im]
    try omega)
  go_enter Try.func17, Try.ntmps17
  go_wp2_with fail
  refine (p0.out _).mono ?_
  rintro e w' ⟨rfl, rfl⟩
  go_wp2_with fail
  refine (pd.out _).mono ?_
  rintro e w' ⟨rfl, rfl⟩
  go_wp2_with fail
  refine (pimm.out _).mono ?_
  rintro e w' ⟨rfl, rfl⟩
  go_wp2_with fail
  try simp only [Exit.inBlock, Exit.then]
  refine bodyPost_ret (results_cell_row rfl _ _ (w.heap.size + 1) 36 #[.int .i64 11, .int .i64 yd, .int .i64 0, .int .i64 0, .int .i64 yi, .int .i64 0] (0, 0) _ (by rfl) (blk2 _ _ _ _ _) Try.underlying36 rfl (by rfl)) rfl ?_
  exact ⟨⟨11, yd, 0, 0, yi, 0⟩, HRT.out, rfl, (((Below.refl _ _).alloc (Nat.le_refl _) _).alloc (by simp) _).alloc (by simp; omega) _⟩
set_option maxHeartbeats 4000000 in
set_option maxRecDepth 100000 in
theorem ins_12 (x0 x1 x2 x3 x4 x5 : Int) (w : World) (h0 : x0 % 45 = 11) : Calls Try.prog 17 #[.agg #[.int .i64 x0, .int .i64 x1, .int .i64 x2, .int .i64 x3, .int .i64 x4, .int .i64 x5]] w (InsAt w) := by
  have p0 : Hid (∀ w, Calls Try.prog 27 #[.int .i64 x0, .int .i64 45] w fun e w' => e = .returned (.int .i64 11) ∧ w = w') := fun w => (pickN x0 45 (by decide) (by decide) w).mono (fun _ _ h => ⟨by rw [h.1, h0], h.2⟩)
  clear h0
  obtain ⟨yd, bd, pd⟩ := low_h x1
  obtain ⟨ym, bm, pm⟩ := low_h x3
  have HRT : Hid (rightS ⟨12, yd, 0, ym, 0, 0⟩ = true) := Lib.hid (by
    simp [rightS, rowOf, rowOk, rpS, reg]
    try omega)
  go_enter Try.func17, Try.ntmps17
  go_wp2_with fail
  refine (p0.out _).mono ?_
  rintro e w' ⟨rfl, rfl⟩
  go_wp2_with fail
  refine (pd.out _).mono ?_
  rintro e w' ⟨rfl, rfl⟩
  go_wp2_with fail
  refine (pm.out _).mono ?_
  rintro e w' ⟨rfl, rfl⟩
  go_wp2_with fail
  try simp only [Exit.inBlock, Exit.then]
  refine bodyPost_ret (results_cell_row rfl _ _ (w.heap.size + 1) 36 #[.int .i64 12, .int .i64 yd, .int .i64 0, .int .i64 ym, .int .i64 0, .int .i64 0] (0, 0) _ (by rfl) (blk2 _ _ _ _ _) Try.underlying36 rfl (by rfl)) rfl ?_
  exact ⟨⟨12, yd, 0, ym, 0, 0⟩, HRT.out, rfl, (((Below.refl _ _).alloc (Nat.le_refl _) _).alloc (by simp) _).alloc (by simp; omega) _⟩
set_option maxHeartbeats 4000000 in
set_option maxRecDepth 100000 in
theorem ins_13 (x0 x1 x2 x3 x4 x5 : Int) (w : World) (h0 : x0 % 45 = 12) : Calls Try.prog 17 #[.agg #[.int .i64 x0, .int .i64 x1, .int .i64 x2, .int .i64 x3, .int .i64 x4, .int .i64 x5]] w (InsAt w) := by
  have p0 : Hid (∀ w, Calls Try.prog 27 #[.int .i64 x0, .int .i64 45] w fun e w' => e = .returned (.int .i64 12) ∧ w = w') := fun w => (pickN x0 45 (by decide) (by decide) w).mono (fun _ _ h => ⟨by rw [h.1, h0], h.2⟩)
  clear h0
  obtain ⟨yd, bd, pd⟩ := low_h x1
  obtain ⟨ym, bm, pm⟩ := low_h x3
  have HRT : Hid (rightS ⟨13, yd, 0, ym, 0, 0⟩ = true) := Lib.hid (by
    simp [rightS, rowOf, rowOk, rpS, reg]
    try omega)
  go_enter Try.func17, Try.ntmps17
  go_wp2_with fail
  refine (p0.out _).mono ?_
  rintro e w' ⟨rfl, rfl⟩
  go_wp2_with fail
  refine (pd.out _).mono ?_
  rintro e w' ⟨rfl, rfl⟩
  go_wp2_with fail
  refine (pm.out _).mono ?_
  rintro e w' ⟨rfl, rfl⟩
  go_wp2_with fail
  try simp only [Exit.inBlock, Exit.then]
  refine bodyPost_ret (results_cell_row rfl _ _ (w.heap.size + 1) 36 #[.int .i64 13, .int .i64 yd, .int .i64 0, .int .i64 ym, .int .i64 0, .int .i64 0] (0, 0) _ (by rfl) (blk2 _ _ _ _ _) Try.underlying36 rfl (by rfl)) rfl ?_
  exact ⟨⟨13, yd, 0, ym, 0, 0⟩, HRT.out, rfl, (((Below.refl _ _).alloc (Nat.le_refl _) _).alloc (by simp) _).alloc (by simp; omega) _⟩
set_option maxHeartbeats 4000000 in
set_option maxRecDepth 100000 in
theorem ins_14 (x0 x1 x2 x3 x4 x5 : Int) (w : World) (h0 : x0 % 45 = 13) : Calls Try.prog 17 #[.agg #[.int .i64 x0, .int .i64 x1, .int .i64 x2, .int .i64 x3, .int .i64 x4, .int .i64 x5]] w (InsAt w) := by
  have p0 : Hid (∀ w, Calls Try.prog 27 #[.int .i64 x0, .int .i64 45] w fun e w' => e = .returned (.int .i64 13) ∧ w = w') := fun w => (pickN x0 45 (by decide) (by decide) w).mono (fun _ _ h => ⟨by rw [h.1, h0], h.2⟩)
  clear h0
  obtain ⟨yd, bd, pd⟩ := low_h x1
  obtain ⟨ym, bm, pm⟩ := low_h x3
  have HRT : Hid (rightS ⟨14, yd, 0, ym, 0, 0⟩ = true) := Lib.hid (by
    simp [rightS, rowOf, rowOk, rpS, reg]
    try omega)
  go_enter Try.func17, Try.ntmps17
  go_wp2_with fail
  refine (p0.out _).mono ?_
  rintro e w' ⟨rfl, rfl⟩
  go_wp2_with fail
  refine (pd.out _).mono ?_
  rintro e w' ⟨rfl, rfl⟩
  go_wp2_with fail
  refine (pm.out _).mono ?_
  rintro e w' ⟨rfl, rfl⟩
  go_wp2_with fail
  try simp only [Exit.inBlock, Exit.then]
  refine bodyPost_ret (results_cell_row rfl _ _ (w.heap.size + 1) 36 #[.int .i64 14, .int .i64 yd, .int .i64 0, .int .i64 ym, .int .i64 0, .int .i64 0] (0, 0) _ (by rfl) (blk2 _ _ _ _ _) Try.underlying36 rfl (by rfl)) rfl ?_
  exact ⟨⟨14, yd, 0, ym, 0, 0⟩, HRT.out, rfl, (((Below.refl _ _).alloc (Nat.le_refl _) _).alloc (by simp) _).alloc (by simp; omega) _⟩
set_option maxHeartbeats 4000000 in
set_option maxRecDepth 100000 in
theorem ins_15 (x0 x1 x2 x3 x4 x5 : Int) (w : World) (h0 : x0 % 45 = 14) : Calls Try.prog 17 #[.agg #[.int .i64 x0, .int .i64 x1, .int .i64 x2, .int .i64 x3, .int .i64 x4, .int .i64 x5]] w (InsAt w) := by
  have p0 : Hid (∀ w, Calls Try.prog 27 #[.int .i64 x0, .int .i64 45] w fun e w' => e = .returned (.int .i64 14) ∧ w = w') := fun w => (pickN x0 45 (by decide) (by decide) w).mono (fun _ _ h => ⟨by rw [h.1, h0], h.2⟩)
  clear h0
  obtain ⟨yd, bd, pd⟩ := low_h x1
  obtain ⟨ym, bm, pm⟩ := low_h x3
  have HRT : Hid (rightS ⟨15, yd, 0, ym, 0, 0⟩ = true) := Lib.hid (by
    simp [rightS, rowOf, rowOk, rpS, reg]
    try omega)
  go_enter Try.func17, Try.ntmps17
  go_wp2_with fail
  refine (p0.out _).mono ?_
  rintro e w' ⟨rfl, rfl⟩
  go_wp2_with fail
  refine (pd.out _).mono ?_
  rintro e w' ⟨rfl, rfl⟩
  go_wp2_with fail
  refine (pm.out _).mono ?_
  rintro e w' ⟨rfl, rfl⟩
  go_wp2_with fail
  try simp only [Exit.inBlock, Exit.then]
  refine bodyPost_ret (results_cell_row rfl _ _ (w.heap.size + 1) 36 #[.int .i64 15, .int .i64 yd, .int .i64 0, .int .i64 ym, .int .i64 0, .int .i64 0] (0, 0) _ (by rfl) (blk2 _ _ _ _ _) Try.underlying36 rfl (by rfl)) rfl ?_
  exact ⟨⟨15, yd, 0, ym, 0, 0⟩, HRT.out, rfl, (((Below.refl _ _).alloc (Nat.le_refl _) _).alloc (by simp) _).alloc (by simp; omega) _⟩
end Go.Proofs.Ytpihjhfaeloapaa
namespace Go.Proofs.Ytpihjhfaeloapaa
open Go.RowKit On Th
set_option maxHeartbeats 4000000 in
set_option maxRecDepth 100000 in
theorem ins_16 (x0 x1 x2 x3 x4 x5 : Int) (w : World) (h0 : x0 % 45 = 15) : Calls Try.prog 17 #[.agg #[.int .i64 x0, .int .i64 x1, .int .i64 x2, .int .i64 x3, .int .i64 x4, .int .i64 x5]] w (InsAt w) := by
  have p0 : Hid (∀ w, Calls Try.prog 27 #[.int .i64 x0, .int .i64 45] w fun e w' => e = .returned (.int .i64 15) ∧ w = w') := fun w => (pickN x0 45 (by decide) (by decide) w).mono (fun _ _ h => ⟨by rw [h.1, h0], h.2⟩)
  clear h0
  obtain ⟨yd, bd, pd⟩ := low_h x1
  obtain ⟨ym, bm, pm⟩ := low_h x3
  have HRT : Hid (rightS ⟨16, yd, 0, ym, 0, 0⟩ = true) := Lib.hid (by
    simp [rightS, rowOf, rowOk, rpS, reg]
    try omega)
  go_enter Try.func17, Try.ntmps17
  go_wp2_with fail
  refine (p0.out _).mono ?_
  rintro e w' ⟨rfl, rfl⟩
  go_wp2_with fail
  refine (pd.out _).mono ?_
  rintro e w' ⟨rfl, rfl⟩
  go_wp2_with fail
  refine (pm.out _).mono ?_
  rintro e w' ⟨rfl, rfl⟩
  go_wp2_with fail
  try simp only [Exit.inBlock, Exit.then]
  refine bodyPost_ret (results_cell_row rfl _ _ (w.heap.size + 1) 36 #[.int .i64 16, .int .i64 yd, .int .i64 0, .int .i64 ym, .int .i64 0, .int .i64 0] (0, 0) _ (by rfl) (blk2 _ _ _ _ _) Try.underlying36 rfl (by rfl)) rfl ?_
  exact ⟨⟨16, yd, 0, ym, 0, 0⟩, HRT.out, rfl, (((Below.refl _ _).alloc (Nat.le_refl _) _).alloc (by simp) _).alloc (by simp; omega) _⟩
set_option maxHeartbeats 4000000 in
set_option maxRecDepth 100000 in
theorem ins_17 (x0 x1 x2 x3 x4 x5 : Int) (w : World) (h0 : x0 % 45 = 16) : Calls Try.prog 17 #[.agg #[.int .i64 x0, .int .i64 x1, .int .i64 x2, .int .i64 x3, .int .i64 x4, .int .i64 x5]] w (InsAt w) := by
  have p0 : Hid (∀ w, Calls Try.prog 27 #[.int .i64 x0, .int .i64 45] w fun e w' => e = .returned (.int .i64 16) ∧ w = w') := fun w => (pickN x0 45 (by decide) (by decide) w).mono (fun _ _ h => ⟨by rw [h.1, h0], h.2⟩)
  clear h0
  obtain ⟨yd, bd, pd⟩ := low_h x1
  obtain ⟨ym, bm, pm⟩ := low_h x3
  have HRT : Hid (rightS ⟨17, yd, 0, ym, 0, 0⟩ = true) := Lib.hid (by
    simp [rightS, rowOf, rowOk, rpS, reg]
    try omega)
  go_enter Try.func17, Try.ntmps17
  go_wp2_with fail
  refine (p0.out _).mono ?_
  rintro e w' ⟨rfl, rfl⟩
  go_wp2_with fail
  refine (pd.out _).mono ?_
  rintro e w' ⟨rfl, rfl⟩
  go_wp2_with fail
  refine (pm.out _).mono ?_
  rintro e w' ⟨rfl, rfl⟩
  go_wp2_with fail
  try simp only [Exit.inBlock, Exit.then]
  refine bodyPost_ret (results_cell_row rfl _ _ (w.heap.size + 1) 36 #[.int .i64 17, .int .i64 yd, .int .i64 0, .int .i64 ym, .int .i64 0, .int .i64 0] (0, 0) _ (by rfl) (blk2 _ _ _ _ _) Try.underlying36 rfl (by rfl)) rfl ?_
  exact ⟨⟨17, yd, 0, ym, 0, 0⟩, HRT.out, rfl, (((Below.refl _ _).alloc (Nat.le_refl _) _).alloc (by simp) _).alloc (by simp; omega) _⟩
set_option maxHeartbeats 4000000 in
set_option maxRecDepth 100000 in
theorem ins_18 (x0 x1 x2 x3 x4 x5 : Int) (w : World) (h0 : x0 % 45 = 17) : Calls Try.prog 17 #[.agg #[.int .i64 x0, .int .i64 x1, .int .i64 x2, .int .i64 x3, .int .i64 x4, .int .i64 x5]] w (InsAt w) := by
  have p0 : Hid (∀ w, Calls Try.prog 27 #[.int .i64 x0, .int .i64 45] w fun e w' => e = .returned (.int .i64 17) ∧ w = w') := fun w => (pickN x0 45 (by decide) (by decide) w).mono (fun _ _ h => ⟨by rw [h.1, h0], h.2⟩)
  clear h0
  obtain ⟨yd, bd, pd⟩ := low_h x1
  obtain ⟨ym, bm, pm⟩ := low_h x3
  have HRT : Hid (rightS ⟨18, yd, 0, ym, 0, 0⟩ = true) := Lib.hid (by
    simp [rightS, rowOf, rowOk, rpS, reg]
    try omega)
  go_enter Try.func17, Try.ntmps17
  go_wp2_with fail
  refine (p0.out _).mono ?_
  rintro e w' ⟨rfl, rfl⟩
  go_wp2_with fail
  refine (pd.out _).mono ?_
  rintro e w' ⟨rfl, rfl⟩
  go_wp2_with fail
  refine (pm.out _).mono ?_
  rintro e w' ⟨rfl, rfl⟩
  go_wp2_with fail
  try simp only [Exit.inBlock, Exit.then]
  refine bodyPost_ret (results_cell_row rfl _ _ (w.heap.size + 1) 36 #[.int .i64 18, .int .i64 yd, .int .i64 0, .int .i64 ym, .int .i64 0, .int .i64 0] (0, 0) _ (by rfl) (blk2 _ _ _ _ _) Try.underlying36 rfl (by rfl)) rfl ?_
  exact ⟨⟨18, yd, 0, ym, 0, 0⟩, HRT.out, rfl, (((Below.refl _ _).alloc (Nat.le_refl _) _).alloc (by simp) _).alloc (by simp; omega) _⟩
set_option maxHeartbeats 4000000 in
set_option maxRecDepth 100000 in
theorem ins_19 (x0 x1 x2 x3 x4 x5 : Int) (w : World) (h0 : x0 % 45 = 18) : Calls Try.prog 17 #[.agg #[.int .i64 x0, .int .i64 x1, .int .i64 x2, .int .i64 x3, .int .i64 x4, .int .i64 x5]] w (InsAt w) := by
  have p0 : Hid (∀ w, Calls Try.prog 27 #[.int .i64 x0, .int .i64 45] w fun e w' => e = .returned (.int .i64 18) ∧ w = w') := fun w => (pickN x0 45 (by decide) (by decide) w).mono (fun _ _ h => ⟨by rw [h.1, h0], h.2⟩)
  clear h0
  obtain ⟨yd, bd, pd⟩ := low_h x1
  obtain ⟨ym, bm, pm⟩ := low_h x3
  have HRT : Hid (rightS ⟨19, yd, 0, ym, 0, 0⟩ = true) := Lib.hid (by
    simp [rightS, rowOf, rowOk, rpS, reg]
    try omega)
  go_enter Try.func17, Try.ntmps17
  go_wp2_with fail
  refine (p0.out _).mono ?_
  rintro e w' ⟨rfl, rfl⟩
  go_wp2_with fail
  refine (pd.out _).mono ?_
  rintro e w' ⟨rfl, rfl⟩
  go_wp2_with fail
  refine (pm.out _).mono ?_
  rintro e w' ⟨rfl, rfl⟩
  go_wp2_with fail
  try simp only [Exit.inBlock, Exit.then]
  refine bodyPost_ret (results_cell_row rfl _ _ (w.heap.size + 1) 36 #[.int .i64 19, .int .i64 yd, .int .i64 0, .int .i64 ym, .int .i64 0, .int .i64 0] (0, 0) _ (by rfl) (blk2 _ _ _ _ _) Try.underlying36 rfl (by rfl)) rfl ?_
  exact ⟨⟨19, yd, 0, ym, 0, 0⟩, HRT.out, rfl, (((Below.refl _ _).alloc (Nat.le_refl _) _).alloc (by simp) _).alloc (by simp; omega) _⟩
set_option maxHeartbeats 4000000 in
set_option maxRecDepth 100000 in
theorem ins_20 (x0 x1 x2 x3 x4 x5 : Int) (w : World) (h0 : x0 % 45 = 19) : Calls Try.prog 17 #[.agg #[.int .i64 x0, .int .i64 x1, .int .i64 x2, .int .i64 x3, .int .i64 x4, .int .i64 x5]] w (InsAt w) := by
  have p0 : Hid (∀ w, Calls Try.prog 27 #[.int .i64 x0, .int .i64 45] w fun e w' => e = .returned (.int .i64 19) ∧ w = w') := fun w => (pickN x0 45 (by decide) (by decide) w).mono (fun _ _ h => ⟨by rw [h.1, h0], h.2⟩)
  clear h0
  obtain ⟨yd, bd, pd⟩ := low_h x1
  obtain ⟨ym, bm, pm⟩ := low_h x3
  have HRT : Hid (rightS ⟨20, yd, 0, ym, 0, 0⟩ = true) := Lib.hid (by
    simp [rightS, rowOf, rowOk, rpS, reg]
    try omega)
  go_enter Try.func17, Try.ntmps17
  go_wp2_with fail
  refine (p0.out _).mono ?_
  rintro e w' ⟨rfl, rfl⟩
  go_wp2_with fail
  refine (pd.out _).mono ?_
  rintro e w' ⟨rfl, rfl⟩
  go_wp2_with fail
  refine (pm.out _).mono ?_
  rintro e w' ⟨rfl, rfl⟩
  go_wp2_with fail
  try simp only [Exit.inBlock, Exit.then]
  refine bodyPost_ret (results_cell_row rfl _ _ (w.heap.size + 1) 36 #[.int .i64 20, .int .i64 yd, .int .i64 0, .int .i64 ym, .int .i64 0, .int .i64 0] (0, 0) _ (by rfl) (blk2 _ _ _ _ _) Try.underlying36 rfl (by rfl)) rfl ?_
  exact ⟨⟨20, yd, 0, ym, 0, 0⟩, HRT.out, rfl, (((Below.refl _ _).alloc (Nat.le_refl _) _).alloc (by simp) _).alloc (by simp; omega) _⟩
set_option maxHeartbeats 4000000 in
set_option maxRecDepth 100000 in
theorem ins_21 (x0 x1 x2 x3 x4 x5 : Int) (w : World) (h0 : x0 % 45 = 20) : Calls Try.prog 17 #[.agg #[.int .i64 x0, .int .i64 x1, .int .i64 x2, .int .i64 x3, .int .i64 x4, .int .i64 x5]] w (InsAt w) := by
  have p0 : Hid (∀ w, Calls Try.prog 27 #[.int .i64 x0, .int .i64 45] w fun e w' => e = .returned (.int .i64 20) ∧ w = w') := fun w => (pickN x0 45 (by decide) (by decide) w).mono (fun _ _ h => ⟨by rw [h.1, h0], h.2⟩)
  clear h0
  obtain ⟨yd, bd, pd⟩ := low_h x1
  obtain ⟨ym, bm, pm⟩ := low_h x3
  have HRT : Hid (rightS ⟨21, yd, 0, ym, 0, 0⟩ = true) := Lib.hid (by
    simp [rightS, rowOf, rowOk, rpS, reg]
    try omega)
  go_enter Try.func17, Try.ntmps17
  go_wp2_with fail
  refine (p0.out _).mono ?_
  rintro e w' ⟨rfl, rfl⟩
  go_wp2_with fail
  refine (pd.out _).mono ?_
  rintro e w' ⟨rfl, rfl⟩
  go_wp2_with fail
  refine (pm.out _).mono ?_
  rintro e w' ⟨rfl, rfl⟩
  go_wp2_with fail
  try simp only [Exit.inBlock, Exit.then]
  refine bodyPost_ret (results_cell_row rfl _ _ (w.heap.size + 1) 36 #[.int .i64 21, .int .i64 yd, .int .i64 0, .int .i64 ym, .int .i64 0, .int .i64 0] (0, 0) _ (by rfl) (blk2 _ _ _ _ _) Try.underlying36 rfl (by rfl)) rfl ?_
  exact ⟨⟨21, yd, 0, ym, 0, 0⟩, HRT.out, rfl, (((Below.refl _ _).alloc (Nat.le_refl _) _).alloc (by simp) _).alloc (by simp; omega) _⟩
set_option maxHeartbeats 4000000 in
set_option maxRecDepth 100000 in
theorem ins_22 (x0 x1 x2 x3 x4 x5 : Int) (w : World) (h0 : x0 % 45 = 21) : Calls Try.prog 17 #[.agg #[.int .i64 x0, .int .i64 x1, .int .i64 x2, .int .i64 x3, .int .i64 x4, .int .i64 x5]] w (InsAt w) := by
  have p0 : Hid (∀ w, Calls Try.prog 27 #[.int .i64 x0, .int .i64 45] w fun e w' => e = .returned (.int .i64 21) ∧ w = w') := fun w => (pickN x0 45 (by decide) (by decide) w).mono (fun _ _ h => ⟨by rw [h.1, h0], h.2⟩)
  clear h0
  obtain ⟨yd, bd, pd⟩ := low_h x1
  obtain ⟨ym, bm, pm⟩ := low_h x3
  have HRT : Hid (rightS ⟨22, yd, 0, ym, 0, 0⟩ = true) := Lib.hid (by
    simp [rightS, rowOf, rowOk, rpS, reg]
    try omega)
  go_enter Try.func17, Try.ntmps17
  go_wp2_with fail
  refine (p0.out _).mono ?_
  rintro e w' ⟨rfl, rfl⟩
  go_wp2_with fail
  refine (pd.out _).mono ?_
  rintro e w' ⟨rfl, rfl⟩
  go_wp2_with fail
  refine (pm.out _).mono ?_
  rintro e w' ⟨rfl, rfl⟩
  go_wp2_with fail
  try simp only [Exit.inBlock, Exit.then]
  refine bodyPost_ret (results_cell_row rfl _ _ (w.heap.size + 1) 36 #[.int .i64 22, .int .i64 yd, .int .i64 0, .int .i64 ym, .int .i64 0, .int .i64 0] (0, 0) _ (by rfl) (blk2 _ _ _ _ _) Try.underlying36 rfl (by rfl)) rfl ?_
  exact ⟨⟨22, yd, 0, ym, 0, 0⟩, HRT.out, rfl, (((Below.refl _ _).alloc (Nat.le_refl _) _).alloc (by simp) _).alloc (by simp; omega) _⟩
set_option maxHeartbeats 4000000 in
set_option maxRecDepth 100000 in
theorem ins_23 (x0 x1 x2 x3 x4 x5 : Int) (w : World) (h0 : x0 % 45 = 22) : Calls Try.prog 17 #[.agg #[.int .i64 x0, .int .i64 x1, .int .i64 x2, .int .i64 x3, .int .i64 x4, .int .i64 x5]] w (InsAt w) := by
  have p0 : Hid (∀ w, Calls Try.prog 27 #[.int .i64 x0, .int .i64 45] w fun e w' => e = .returned (.int .i64 22) ∧ w = w') := fun w => (pickN x0 45 (by decide) (by decide) w).mono (fun _ _ h => ⟨by rw [h.1, h0], h.2⟩)
  clear h0
  obtain ⟨yd, bd, pd⟩ := low_h x1
  obtain ⟨ym, bm, pm⟩ := low_h x3
  have HRT : Hid (rightS ⟨23, yd, 0, ym, 0, 0⟩ = true) := Lib.hid (by
    simp [rightS, rowOf, rowOk, rpS, reg]
    try omega)
  go_enter Try.func17, Try.ntmps17
  go_wp2_with fail
  refine (p0.out _).mono ?_
  rintro e w' ⟨rfl, rfl⟩
  go_wp2_with fail
  refine (pd.out _).mono ?_
  rintro e w' ⟨rfl, rfl⟩
  go_wp2_with fail
  refine (pm.out _).mono ?_
  rintro e w' ⟨rfl, rfl⟩
  go_wp2_with fail
  try simp only [Exit.inBlock, Exit.then]
  refine bodyPost_ret (results_cell_row rfl _ _ (w.heap.size + 1) 36 #[.int .i64 23, .int .i64 yd, .int .i64 0, .int .i64 ym, .int .i64 0, .int .i64 0] (0, 0) _ (by rfl) (blk2 _ _ _ _ _) Try.underlying36 rfl (by rfl)) rfl ?_
  exact ⟨⟨23, yd, 0, ym, 0, 0⟩, HRT.out, rfl, (((Below.refl _ _).alloc (Nat.le_refl _) _).alloc (by simp) _).alloc (by simp; omega) _⟩
set_option maxHeartbeats 4000000 in
set_option maxRecDepth 100000 in
theorem ins_24 (x0 x1 x2 x3 x4 x5 : Int) (w : World) (h0 : x0 % 45 = 23) : Calls Try.prog 17 #[.agg #[.int .i64 x0, .int .i64 x1, .int .i64 x2, .int .i64 x3, .int .i64 x4, .int .i64 x5]] w (InsAt w) := by
  have p0 : Hid (∀ w, Calls Try.prog 27 #[.int .i64 x0, .int .i64 45] w fun e w' => e = .returned (.int .i64 23) ∧ w = w') := fun w => (pickN x0 45 (by decide) (by decide) w).mono (fun _ _ h => ⟨by rw [h.1, h0], h.2⟩)
  clear h0
  obtain ⟨yd, bd, pd⟩ := low_h x1
  obtain ⟨ym, bm, pm⟩ := low_h x3
  have HRT : Hid (rightS ⟨24, yd, 0, ym, 0, 0⟩ = true) := Lib.hid (by
    simp [rightS, rowOf, rowOk, rpS, reg]
    try omega)
  go_enter Try.func17, Try.ntmps17
  go_wp2_with fail
  refine (p0.out _).mono ?_
  rintro e w' ⟨rfl, rfl⟩
  go_wp2_with fail
  refine (pd.out _).mono ?_
  rintro e w' ⟨rfl, rfl⟩
  go_wp2_with fail
  refine (pm.out _).mono ?_
  rintro e w' ⟨rfl, rfl⟩
  go_wp2_with fail
  try simp only [Exit.inBlock, Exit.then]
  refine bodyPost_ret (results_cell_row rfl _ _ (w.heap.size + 1) 36 #[.int .i64 24, .int .i64 yd, .int .i64 0, .int .i64 ym, .int .i64 0, .int .i64 0] (0, 0) _ (by rfl) (blk2 _ _ _ _ _) Try.underlying36 rfl (by rfl)) rfl ?_
  exact ⟨⟨24, yd, 0, ym, 0, 0⟩, HRT.out, rfl, (((Below.refl _ _).alloc (Nat.le_refl _) _).alloc (by simp) _).alloc (by simp; omega) _⟩
set_option maxHeartbeats 4000000 in
set_option maxRecDepth 100000 in
theorem ins_25 (x0 x1 x2 x3 x4 x5 : Int) (w : World) (h0 : x0 % 45 = 24) : Calls Try.prog 17 #[.agg #[.int .i64 x0, .int .i64 x1, .int .i64 x2, .int .i64 x3, .int .i64 x4, .int .i64 x5]] w (InsAt w) := by
  have p0 : Hid (∀ w, Calls Try.prog 27 #[.int .i64 x0, .int .i64 45] w fun e w' => e = .returned (.int .i64 24) ∧ w = w') := fun w => (pickN x0 45 (by decide) (by decide) w).mono (fun _ _ h => ⟨by rw [h.1, h0], h.2⟩)
  clear h0
  obtain ⟨yd, bd, pd⟩ := low_h x1
  obtain ⟨ym, bm, pm⟩ := low_h x3
  have HRT : Hid (rightS ⟨25, yd, 0, ym, 0, 0⟩ = true) := Lib.hid (by
    simp [rightS, rowOf, rowOk, rpS, reg]
    try omega)
  go_enter Try.func17, Try.ntmps17
  go_wp2_with fail
  refine (p0.out _).mono ?_
  rintro e w' ⟨rfl, rfl⟩
  go_wp2_with fail
  refine (pd.out _).mono ?_
  rintro e w' ⟨rfl, rfl⟩
  go_wp2_with fail
  refine (pm.out _).mono ?_
  rintro e w' ⟨rfl, rfl⟩
  go_wp2_with fail
  try simp only [Exit.inBlock, Exit.then]
  refine bodyPost_ret (results_cell_row rfl _ _ (w.heap.size + 1) 36 #[.int .i64 25, .int .i64 yd, .int .i64 0, .int .i64 ym, .int .i64 0, .int .i64 0] (0, 0) _ (by rfl) (blk2 _ _ _ _ _) Try.underlying36 rfl (by rfl)) rfl ?_
  exact ⟨⟨25, yd, 0, ym, 0, 0⟩, HRT.out, rfl, (((Below.refl _ _).alloc (Nat.le_refl _) _).alloc (by simp) _).alloc (by simp; omega) _⟩
set_option maxHeartbeats 4000000 in
set_option maxRecDepth 100000 in
theorem ins_26 (x0 x1 x2 x3 x4 x5 : Int) (w : World) (h0 : x0 % 45 = 25) : Calls Try.prog 17 #[.agg #[.int .i64 x0, .int .i64 x1, .int .i64 x2, .int .i64 x3, .int .i64 x4, .int .i64 x5]] w (InsAt w) := by
  have p0 : Hid (∀ w, Calls Try.prog 27 #[.int .i64 x0, .int .i64 45] w fun e w' => e = .returned (.int .i64 25) ∧ w = w') := fun w => (pickN x0 45 (by decide) (by decide) w).mono (fun _ _ h => ⟨by rw [h.1, h0], h.2⟩)
  clear h0
  obtain ⟨yd, bd, pd⟩ := low_h x1
  obtain ⟨ym, bm, pm⟩ := low_h x3
  have HRT : Hid (rightS ⟨26, yd, 0, ym, 0, 0⟩ = true) := Lib.hid (by
    simp [rightS, rowOf, rowOk, rpS, reg]
    try omega)
  go_enter Try.func17, Try.ntmps17
  go_wp2_with fail
  refine (p0.out _).mono ?_
  rintro e w' ⟨rfl, rfl⟩
  go_wp2_with fail
  refine (pd.out _).mono ?_
  rintro e w' ⟨rfl, rfl⟩
  go_wp2_with fail
  refine (pm.out _).mono ?_
  rintro e w' ⟨rfl, rfl⟩
  go_wp2_with fail
  try simp only [Exit.inBlock, Exit.then]
  refine bodyPost_ret (results_cell_row rfl _ _ (w.heap.size + 1) 36 #[.int .i64 26, .int .i64 yd, .int .i64 0, .int .i64 ym, .int .i64 0, .int .i64 0] (0, 0) _ (by rfl) (blk2 _ _ _ _ _) Try.underlying36 rfl (by rfl)) rfl ?_
  exact ⟨⟨26, yd, 0, ym, 0, 0⟩, HRT.out, rfl, (((Below.refl _ _).alloc (Nat.le_refl _) _).alloc (by simp) _).alloc (by simp; omega) _⟩
set_option maxHeartbeats 4000000 in
set_option maxRecDepth 100000 in
theorem ins_27 (x0 x1 x2 x3 x4 x5 : Int) (w : World) (h0 : x0 % 45 = 26) : Calls Try.prog 17 #[.agg #[.int .i64 x0, .int .i64 x1, .int .i64 x2, .int .i64 x3, .int .i64 x4, .int .i64 x5]] w (InsAt w) := by
  have p0 : Hid (∀ w, Calls Try.prog 27 #[.int .i64 x0, .int .i64 45] w fun e w' => e = .returned (.int .i64 26) ∧ w = w') := fun w => (pickN x0 45 (by decide) (by decide) w).mono (fun _ _ h => ⟨by rw [h.1, h0], h.2⟩)
  clear h0
  obtain ⟨yd, bd, pd⟩ := low_h x1
  obtain ⟨ym, bm, pm⟩ := low_h x3
  have HRT : Hid (rightS ⟨27, yd, 0, ym, 0, 0⟩ = true) := Lib.hid (by
    simp [rightS, rowOf, rowOk, rpS, reg]
    try omega)
  go_enter Try.func17, Try.ntmps17
  go_wp2_with fail
  refine (p0.out _).mono ?_
  rintro e w' ⟨rfl, rfl⟩
  go_wp2_with fail
  refine (pd.out _).mono ?_
  rintro e w' ⟨rfl, rfl⟩
  go_wp2_with fail
  refine (pm.out _).mono ?_
  rintro e w' ⟨rfl, rfl⟩
  go_wp2_with fail
  try simp only [Exit.inBlock, Exit.then]
  refine bodyPost_ret (results_cell_row rfl _ _ (w.heap.size + 1) 36 #[.int .i64 27, .int .i64 yd, .int .i64 0, .int .i64 ym, .int .i64 0, .int .i64 0] (0, 0) _ (by rfl) (blk2 _ _ _ _ _) Try.underlying36 rfl (by rfl)) rfl ?_
  exact ⟨⟨27, yd, 0, ym, 0, 0⟩, HRT.out, rfl, (((Below.refl _ _).alloc (Nat.le_refl _) _).alloc (by simp) _).alloc (by simp; omega) _⟩
set_option maxHeartbeats 4000000 in
set_option maxRecDepth 100000 in
theorem ins_28 (x0 x1 x2 x3 x4 x5 : Int) (w : World) (h0 : x0 % 45 = 27) : Calls Try.prog 17 #[.agg #[.int .i64 x0, .int .i64 x1, .int .i64 x2, .int .i64 x3, .int .i64 x4, .int .i64 x5]] w (InsAt w) := by
  have p0 : Hid (∀ w, Calls Try.prog 27 #[.int .i64 x0, .int .i64 45] w fun e w' => e = .returned (.int .i64 27) ∧ w = w') := fun w => (pickN x0 45 (by decide) (by decide) w).mono (fun _ _ h => ⟨by rw [h.1, h0], h.2⟩)
  clear h0
  obtain ⟨yd, bd, _, pd⟩ := pickH x1 9 (by decide) (by decide)
  obtain ⟨ym, bm, _, pm⟩ := pickH x3 15 (by decide) (by decide)
  have hyd : yd = 0 ∨ yd = 1 ∨ yd = 2 ∨ yd = 3 ∨ yd = 4 ∨ yd = 5 ∨ yd = 6 ∨ yd = 7 ∨ yd = 8 := by omega
  clear bd
  obtain ⟨zd, hz, hix⟩ : ∃ zd : Int, (0 ≤ zd ∧ zd < 15 ∧ zd ≠ 13) ∧ ∀ wq, (Instr.index 82 (.agg #[.int .i64 0, .int .i64 1, .int .i64 2, .int .i64 7, .int .i64 8, .int .i64 9, .int .i64 12, .int .i64 14, .int .i64 3]) (.int .i64 yd)).run Try.prog wq = .ok (.int .i64 zd) wq := by
    rcases hyd with rfl | rfl | rfl | rfl | rfl | rfl | rfl | rfl | rfl <;> first | exact ⟨0, by decide, ix9 _ _ (by decide) rfl⟩ | exact ⟨1, by decide, ix9 _ _ (by decide) rfl⟩ | exact ⟨2, by decide, ix9 _ _ (by decide) rfl⟩ | exact ⟨7, by decide, ix9 _ _ (by decide) rfl⟩ | exact ⟨8, by decide, ix9 _ _ (by decide) rfl⟩ | exact ⟨9, by decide, ix9 _ _ (by decide) rfl⟩ | exact ⟨12, by decide, ix9 _ _ (by decide) rfl⟩ | exact ⟨14, by decide, ix9 _ _ (by decide) rfl⟩ | exact ⟨3, by decide, ix9 _ _ (by decide) rfl⟩
  have HRT : Hid (rightS ⟨28, zd, 0, ym, 0, 0⟩ = true) := Lib.hid (by
    simp [rightS]
    try omega)
  go_enter Try.func17, Try.ntmps17
  go_wp2_with fail
  refine (p0.out _).mono ?_
  rintro e w' ⟨rfl, rfl⟩
  go_wp2_with fail
  refine (pd.out _).mono ?_
  rintro e w' ⟨rfl, rfl⟩
  go_wp2_with fail
  refine (pm.out _).mono ?_
  rintro e w' ⟨rfl, rfl⟩
  go_wp2_with fail
  try simp only [Exit.inBlock, Exit.then]
  refine bodyPost_ret (results_cell_row rfl _ _ (w.heap.size + 1) 36 #[.int .i64 28, .int .i64 zd, .int .i64 0, .int .i64 ym, .int .i64 0, .int .i64 0] (0, 0) _ (by rfl) (blk2 _ _ _ _ _) Try.underlying36 rfl (by rfl)) rfl ?_
  exact ⟨⟨28, zd, 0, ym, 0, 0⟩, HRT.out, rfl, (((Below.refl _ _).alloc (Nat.le_refl _) _).alloc (by simp) _).alloc (by simp; omega) _⟩
set_option maxHeartbeats 4000000 in
set_option maxRecDepth 100000 in
theorem ins_29 (x0 x1 x2 x3 x4 x5 : Int) (w : World) (h0 : x0 % 45 = 28) : Calls Try.prog 17 #[.agg #[.int .i64 x0, .int .i64 x1, .int .i64 x2, .int .i64 x3, .int .i64 x4, .int .i64 x5]] w (InsAt w) := by
  have p0 : Hid (∀ w, Calls Try.prog 27 #[.int .i64 x0, .int .i64 45] w fun e w' => e = .returned (.int .i64 28) ∧ w = w') := fun w => (pickN x0 45 (by decide) (by decide) w).mono (fun _ _ h => ⟨by rw [h.1, h0], h.2⟩)
  clear h0
  obtain ⟨yd, bd, pd⟩ := low_h x1
  obtain ⟨yn, bn, pn⟩ := low_h x2
  obtain ⟨ym, bm, pm⟩ := low_h x3
  have HRT : Hid (rightS ⟨29, yd, yn, ym, 0, 0⟩ = true) := Lib.hid (by
    simp [rightS, rowOf, rowOk, rpS, reg]
    try omega)
  go_enter Try.func17, Try.ntmps17
  go_wp2_with fail
  refine (p0.out _).mono ?_
  rintro e w' ⟨rfl, rfl⟩
  go_wp2_with fail
  refine (pd.out _).mono ?_
  rintro e w' ⟨rfl, rfl⟩
  go_wp2_with fail
  refine (pn.out _).mono ?_
  rintro e w' ⟨rfl, rfl⟩
  go_wp2_with fail
  refine (pm.out _).mono ?_
  rintro e w' ⟨rfl, rfl⟩
  go_wp2_with fail
  try simp only [Exit.inBlock, Exit.then]
  refine bodyPost_ret (results_cell_row rfl _ _ (w.heap.size + 1) 36 #[.int .i64 29, .int .i64 yd, .int .i64 yn, .int .i64 ym, .int .i64 0, .int .i64 0] (0, 0) _ (by rfl) (blk2 _ _ _ _ _) Try.underlying36 rfl (by rfl)) rfl ?_
  exact ⟨⟨29, yd, yn, ym, 0, 0⟩, HRT.out, rfl, (((Below.refl _ _).alloc (Nat.le_refl _) _).alloc (by simp) _).alloc (by simp; omega) _⟩
set_option maxHeartbeats 4000000 in
set_option maxRecDepth 100000 in
theorem ins_30 (x0 x1 x2 x3 x4 x5 : Int) (w : World) (h0 : x0 % 45 = 29) : Calls Try.prog 17 #[.agg #[.int .i64 x0, .int .i64 x1, .int .i64 x2, .int .i64 x3, .int .i64 x4, .int .i64 x5]] w (InsAt w) := by
  have p0 : Hid (∀ w, Calls Try.prog 27 #[.int .i64 x0, .int .i64 45] w fun e w' => e = .returned (.int .i64 29) ∧ w = w') := fun w => (pickN x0 45 (by decide) (by decide) w).mono (fun _ _ h => ⟨by rw [h.1, h0], h.2⟩)
  clear h0
  obtain ⟨yd, bd, pd⟩ := low_h x1
  obtain ⟨yn, bn, pn⟩ := low_h x2
  obtain ⟨ym, bm, pm⟩ := low_h x3
  have HRT : Hid (rightS ⟨30, yd, yn, ym, 0, 0⟩ = true) := Lib.hid (by
    simp [rightS, rowOf, rowOk, rpS, reg]
    try omega)
  go_enter Try.func17, Try.ntmps17
  go_wp2_with fail
  refine (p0.out _).mono ?_
  rintro e w' ⟨rfl, rfl⟩
  go_wp2_with fail
  refine (pd.out _).mono ?_
  rintro e w' ⟨rfl, rfl⟩
  go_wp2_with fail
  refine (pn.out _).mono ?_
  rintro e w' ⟨rfl, rfl⟩
  go_wp2_with fail
  refine (pm.out _).mono ?_
  rintro e w' ⟨rfl, rfl⟩
  go_wp2_with fail
  try simp only [Exit.inBlock, Exit.then]
  refine bodyPost_ret (results_cell_row rfl _ _ (w.heap.size + 1) 36 #[.int .i64 30, .int .i64 yd, .int .i64 yn, .int .i64 ym, .int .i64 0, .int .i64 0] (0, 0) _ (by rfl) (blk2 _ _ _ _ _) Try.underlying36 rfl (by rfl)) rfl ?_
  exact ⟨⟨30, yd, yn, ym, 0, 0⟩, HRT.out, rfl, (((Below.refl _ _).alloc (Nat.le_refl _) _).alloc (by simp) _).alloc (by simp; omega) _⟩
end Go.Proofs.Ytpihjhfaeloapaa
