/- ref14.Encode, number by number. -/
import Derived.Test.YtpihjhfaeloapaaTe0
import Derived.BigGuardPart
namespace Go.Proofs.Ytpihjhfaeloapaa
open Go.RowKit On Th
set_option maxHeartbeats 4000000 in
set_option maxRecDepth 100000 in
theorem refEnc_1 (d n m imm cond : Int) (w : World) : Calls Try.prog 16 #[.agg #[.int .i64 1, .int .i64 d, .int .i64 n, .int .i64 m, .int .i64 imm, .int .i64 cond]] w (RefEnc ⟨1, d, n, m, imm, cond⟩ w) := by
  go_enter Try.func16, Try.ntmps16
  go_wp2_with (first | (go_at_call 31; refine (one_c _ _).mono ?_; rintro e w' ⟨rfl, rfl⟩))
  go_ret
  refine ⟨_, ⟨_, rfl, Blk.new' _ _ _ _ (by simp only [World.size_alloc]), ((Below.refl _ _).alloc (Nat.le_refl _) _).alloc (by simp) _⟩, fun hr => ?_⟩
  exact of_decide_eq_true (enumB (fun d n m imm cond => decide (encL ⟨1, d, n, m, imm, cond⟩ = [bits .or .u16 (bits .or .u16 (bits .or .u16 0 (IntKind.u16.wrap (IntKind.u16.wrap (imm.tmod 32) * 64))) (IntKind.u16.wrap (IntKind.u16.wrap m * 8))) (IntKind.u16.wrap d)])) 1 0 [reg 0 0, reg 2 3, im 6 5 0 31 1] rfl (by decide) (by decide) (by decide +kernel) d n m imm cond hr)
set_option maxHeartbeats 4000000 in
set_option maxRecDepth 100000 in
theorem refEnc_2 (d n m imm cond : Int) (w : World) : Calls Try.prog 16 #[.agg #[.int .i64 2, .int .i64 d, .int .i64 n, .int .i64 m, .int .i64 imm, .int .i64 cond]] w (RefEnc ⟨2, d, n, m, imm, cond⟩ w) := by
  go_enter Try.func16, Try.ntmps16
  go_wp2_with (first | (go_at_call 31; refine (one_c _ _).mono ?_; rintro e w' ⟨rfl, rfl⟩))
  go_ret
  refine ⟨_, ⟨_, rfl, Blk.new' _ _ _ _ (by simp only [World.size_alloc]), ((Below.refl _ _).alloc (Nat.le_refl _) _).alloc (by simp) _⟩, fun hr => ?_⟩
  exact of_decide_eq_true (enumB (fun d n m imm cond => decide (encL ⟨2, d, n, m, imm, cond⟩ = [bits .or .u16 (bits .or .u16 (bits .or .u16 2048 (IntKind.u16.wrap (IntKind.u16.wrap (imm.tmod 32) * 64))) (IntKind.u16.wrap (IntKind.u16.wrap m * 8))) (IntKind.u16.wrap d)])) 2 2048 [reg 0 0, reg 2 3, im 6 5 1 32 1] rfl (by decide) (by decide) (by decide +kernel) d n m imm cond hr)
set_option maxHeartbeats 4000000 in
set_option maxRecDepth 100000 in
theorem refEnc_3 (d n m imm cond : Int) (w : World) : Calls Try.prog 16 #[.agg #[.int .i64 3, .int .i64 d, .int .i64 n, .int .i64 m, .int .i64 imm, .int .i64 cond]] w (RefEnc ⟨3, d, n, m, imm, cond⟩ w) := by
  go_enter Try.func16, Try.ntmps16
  go_wp2_with (first | (go_at_call 31; refine (one_c _ _).mono ?_; rintro e w' ⟨rfl, rfl⟩))
  go_ret
  refine ⟨_, ⟨_, rfl, Blk.new' _ _ _ _ (by simp only [World.size_alloc]), ((Below.refl _ _).alloc (Nat.le_refl _) _).alloc (by simp) _⟩, fun hr => ?_⟩
  exact of_decide_eq_true (enumB (fun d n m imm cond => decide (encL ⟨3, d, n, m, imm, cond⟩ = [bits .or .u16 (bits .or .u16 (bits .or .u16 4096 (IntKind.u16.wrap (IntKind.u16.wrap (imm.tmod 32) * 64))) (IntKind.u16.wrap (IntKind.u16.wrap m * 8))) (IntKind.u16.wrap d)])) 3 4096 [reg 0 0, reg 2 3, im 6 5 1 32 1] rfl (by decide) (by decide) (by decide +kernel) d n m imm cond hr)
set_option maxHeartbeats 4000000 in
set_option maxRecDepth 100000 in
theorem refEnc_4 (d n m imm cond : Int) (w : World) : Calls Try.prog 16 #[.agg #[.int .i64 4, .int .i64 d, .int .i64 n, .int .i64 m, .int .i64 imm, .int .i64 cond]] w (RefEnc ⟨4, d, n, m, imm, cond⟩ w) := by
  go_enter Try.func16, Try.ntmps16
  go_wp2_with (first | (go_at_call 31; refine (one_c _ _).mono ?_; rintro e w' ⟨rfl, rfl⟩))
  go_ret
  refine ⟨_, ⟨_, rfl, Blk.new' _ _ _ _ (by simp only [World.size_alloc]), ((Below.refl _ _).alloc (Nat.le_refl _) _).alloc (by simp) _⟩, fun hr => ?_⟩
  exact of_decide_eq_true (enumB (fun d n m imm cond => decide (encL ⟨4, d, n, m, imm, cond⟩ = [bits .or .u16 (bits .or .u16 (bits .or .u16 6144 (IntKind.u16.wrap (IntKind.u16.wrap m * 64))) (IntKind.u16.wrap (IntKind.u16.wrap n * 8))) (IntKind.u16.wrap d)])) 4 6144 [reg 0 0, reg 1 3, reg 2 6] rfl (by decide) (by decide) (by decide +kernel) d n m imm cond hr)
set_option maxHeartbeats 4000000 in
set_option maxRecDepth 100000 in
theorem refEnc_5 (d n m imm cond : Int) (w : World) : Calls Try.prog 16 #[.agg #[.int .i64 5, .int .i64 d, .int .i64 n, .int .i64 m, .int .i64 imm, .int .i64 cond]] w (RefEnc ⟨5, d, n, m, imm, cond⟩ w) := by
  go_enter Try.func16, Try.ntmps16
  go_wp2_with (first | (go_at_call 31; refine (one_c _ _).mono ?_; rintro e w' ⟨rfl, rfl⟩))
  go_ret
  refine ⟨_, ⟨_, rfl, Blk.new' _ _ _ _ (by simp only [World.size_alloc]), ((Below.refl _ _).alloc (Nat.le_refl _) _).alloc (by simp) _⟩, fun hr => ?_⟩
  exact of_decide_eq_true (enumB (fun d n m imm cond => decide (encL ⟨5, d, n, m, imm, cond⟩ = [bits .or .u16 (bits .or .u16 (bits .or .u16 6656 (IntKind.u16.wrap (IntKind.u16.wrap m * 64))) (IntKind.u16.wrap (IntKind.u16.wrap n * 8))) (IntKind.u16.wrap d)])) 5 6656 [reg 0 0, reg 1 3, reg 2 6] rfl (by decide) (by decide) (by decide +kernel) d n m imm cond hr)
set_option maxHeartbeats 4000000 in
set_option maxRecDepth 100000 in
theorem refEnc_6 (d n m imm cond : Int) (w : World) : Calls Try.prog 16 #[.agg #[.int .i64 6, .int .i64 d, .int .i64 n, .int .i64 m, .int .i64 imm, .int .i64 cond]] w (RefEnc ⟨6, d, n, m, imm, cond⟩ w) := by
  go_enter Try.func16, Try.ntmps16
  go_wp2_with (first | (go_at_call 31; refine (one_c _ _).mono ?_; rintro e w' ⟨rfl, rfl⟩))
  go_ret
  refine ⟨_, ⟨_, rfl, Blk.new' _ _ _ _ (by simp only [World.size_alloc]), ((Below.refl _ _).alloc (Nat.le_refl _) _).alloc (by simp) _⟩, fun hr => ?_⟩
  exact of_decide_eq_true (enumB (fun d n m imm cond => decide (encL ⟨6, d, n, m, imm, cond⟩ = [bits .or .u16 (bits .or .u16 (bits .or .u16 7168 (IntKind.u16.wrap (IntKind.u16.wrap imm * 64))) (IntKind.u16.wrap (IntKind.u16.wrap n * 8))) (IntKind.u16.wrap d)])) 6 7168 [reg 0 0, reg 1 3, reg 3 6] rfl (by decide) (by decide) (by decide +kernel) d n m imm cond hr)
set_option maxHeartbeats 4000000 in
set_option maxRecDepth 100000 in
theorem refEnc_7 (d n m imm cond : Int) (w : World) : Calls Try.prog 16 #[.agg #[.int .i64 7, .int .i64 d, .int .i64 n, .int .i64 m, .int .i64 imm, .int .i64 cond]] w (RefEnc ⟨7, d, n, m, imm, cond⟩ w) := by
  go_enter Try.func16, Try.ntmps16
  go_wp2_with (first | (go_at_call 31; refine (one_c _ _).mono ?_; rintro e w' ⟨rfl, rfl⟩))
  go_ret
  refine ⟨_, ⟨_, rfl, Blk.new' _ _ _ _ (by simp only [World.size_alloc]), ((Below.refl _ _).alloc (Nat.le_refl _) _).alloc (by simp) _⟩, fun hr => ?_⟩
  exact of_decide_eq_true (enumB (fun d n m imm cond => decide (encL ⟨7, d, n, m, imm, cond⟩ = [bits .or .u16 (bits .or .u16 (bits .or .u16 7680 (IntKind.u16.wrap (IntKind.u16.wrap imm * 64))) (IntKind.u16.wrap (IntKind.u16.wrap n * 8))) (IntKind.u16.wrap d)])) 7 7680 [reg 0 0, reg 1 3, reg 3 6] rfl (by decide) (by decide) (by decide +kernel) d n m imm cond hr)
end Go.Proofs.Ytpihjhfaeloapaa
