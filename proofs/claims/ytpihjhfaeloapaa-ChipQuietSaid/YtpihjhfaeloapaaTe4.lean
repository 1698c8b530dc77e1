/- ref14.Encode, number by number. -/
import Derived.Test.YtpihjhfaeloapaaTe0
import Derived.BigGuardPart
namespace Go.Proofs.Ytpihjhfaeloapaa
open Go.RowKit On Th
set_option maxHeartbeats 4000000 in
set_option maxRecDepth 100000 in
theorem refEnc_29 (d n m imm cond : Int) (w : World) : Calls Try.prog 16 #[.agg #[.int .i64 29, .int .i64 d, .int .i64 n, .int .i64 m, .int .i64 imm, .int .i64 cond]] w (RefEnc ⟨29, d, n, m, imm, cond⟩ w) := by
  go_enter Try.func16, Try.ntmps16
  go_wp2_with (first | (go_at_call 31; refine (one_c _ _).mono ?_; rintro e w' ⟨rfl, rfl⟩))
  go_ret
  refine ⟨_, ⟨_, rfl, Blk.new' _ _ _ _ (by simp only [World.size_alloc]), ((Below.refl _ _).alloc (Nat.le_refl _) _).alloc (by simp) _⟩, fun hr => ?_⟩
  exact of_decide_eq_true (enumB (fun d n m imm cond => decide (encL ⟨29, d, n, m, imm, cond⟩ = [bits .or .u16 (bits .or .u16 (bits .or .u16 22528 (IntKind.u16.wrap (IntKind.u16.wrap m * 64))) (IntKind.u16.wrap (IntKind.u16.wrap n * 8))) (IntKind.u16.wrap d)])) 29 22528 [reg 0 0, reg 1 3, reg 2 6] rfl (by decide) (by decide) (by decide +kernel) d n m imm cond hr)
set_option maxHeartbeats 4000000 in
set_option maxRecDepth 100000 in
theorem refEnc_30 (d n m imm cond : Int) (w : World) : Calls Try.prog 16 #[.agg #[.int .i64 30, .int .i64 d, .int .i64 n, .int .i64 m, .int .i64 imm, .int .i64 cond]] w (RefEnc ⟨30, d, n, m, imm, cond⟩ w) := by
  go_enter Try.func16, Try.ntmps16
  go_wp2_with (first | (go_at_call 31; refine (one_c _ _).mono ?_; rintro e w' ⟨rfl, rfl⟩))
  go_ret
  refine ⟨_, ⟨_, rfl, Blk.new' _ _ _ _ (by simp only [World.size_alloc]), ((Below.refl _ _).alloc (Nat.le_refl _) _).alloc (by simp) _⟩, fun hr => ?_⟩
  exact of_decide_eq_true (enumB (fun d n m imm cond => decide (encL ⟨30, d, n, m, imm, cond⟩ = [bits .or .u16 (bits .or .u16 (bits .or .u16 20480 (IntKind.u16.wrap (IntKind.u16.wrap m * 64))) (IntKind.u16.wrap (IntKind.u16.wrap n * 8))) (IntKind.u16.wrap d)])) 30 20480 [reg 0 0, reg 1 3, reg 2 6] rfl (by decide) (by decide) (by decide +kernel) d n m imm cond hr)
set_option maxHeartbeats 4000000 in
set_option maxRecDepth 100000 in
theorem refEnc_31 (d n m imm cond : Int) (w : World) : Calls Try.prog 16 #[.agg #[.int .i64 31, .int .i64 d, .int .i64 n, .int .i64 m, .int .i64 imm, .int .i64 cond]] w (RefEnc ⟨31, d, n, m, imm, cond⟩ w) := by
  go_enter Try.func16, Try.ntmps16
  go_wp2_with (first | (go_at_call 31; refine (one_c _ _).mono ?_; rintro e w' ⟨rfl, rfl⟩))
  go_ret
  refine ⟨_, ⟨_, rfl, Blk.new' _ _ _ _ (by simp only [World.size_alloc]), ((Below.refl _ _).alloc (Nat.le_refl _) _).alloc (by simp) _⟩, fun hr => ?_⟩
  exact of_decide_eq_true (enumB (fun d n m imm cond => decide (encL ⟨31, d, n, m, imm, cond⟩ = [bits .or .u16 (bits .or .u16 (bits .or .u16 26624 (IntKind.u16.wrap (IntKind.u16.wrap (wrap64 (imm.tdiv 4)) * 64))) (IntKind.u16.wrap (IntKind.u16.wrap n * 8))) (IntKind.u16.wrap d)])) 31 26624 [reg 0 0, reg 1 3, im 6 5 0 124 4] rfl (by decide) (by decide) (by decide +kernel) d n m imm cond hr)
set_option maxHeartbeats 4000000 in
set_option maxRecDepth 100000 in
theorem refEnc_32 (d n m imm cond : Int) (w : World) : Calls Try.prog 16 #[.agg #[.int .i64 32, .int .i64 d, .int .i64 n, .int .i64 m, .int .i64 imm, .int .i64 cond]] w (RefEnc ⟨32, d, n, m, imm, cond⟩ w) := by
  go_enter Try.func16, Try.ntmps16
  go_wp2_with (first | (go_at_call 31; refine (one_c _ _).mono ?_; rintro e w' ⟨rfl, rfl⟩))
  go_ret
  refine ⟨_, ⟨_, rfl, Blk.new' _ _ _ _ (by simp only [World.size_alloc]), ((Below.refl _ _).alloc (Nat.le_refl _) _).alloc (by simp) _⟩, fun hr => ?_⟩
  exact of_decide_eq_true (enumB (fun d n m imm cond => decide (encL ⟨32, d, n, m, imm, cond⟩ = [bits .or .u16 (bits .or .u16 (bits .or .u16 24576 (IntKind.u16.wrap (IntKind.u16.wrap (wrap64 (imm.tdiv 4)) * 64))) (IntKind.u16.wrap (IntKind.u16.wrap n * 8))) (IntKind.u16.wrap d)])) 32 24576 [reg 0 0, reg 1 3, im 6 5 0 124 4] rfl (by decide) (by decide) (by decide +kernel) d n m imm cond hr)
set_option maxHeartbeats 4000000 in
set_option maxRecDepth 100000 in
theorem refEnc_33 (d n m imm cond : Int) (w : World) : Calls Try.prog 16 #[.agg #[.int .i64 33, .int .i64 d, .int .i64 n, .int .i64 m, .int .i64 imm, .int .i64 cond]] w (RefEnc ⟨33, d, n, m, imm, cond⟩ w) := by
  go_enter Try.func16, Try.ntmps16
  go_wp2_with (first | (go_at_call 31; refine (one_c _ _).mono ?_; rintro e w' ⟨rfl, rfl⟩))
  go_ret
  refine ⟨_, ⟨_, rfl, Blk.new' _ _ _ _ (by simp only [World.size_alloc]), ((Below.refl _ _).alloc (Nat.le_refl _) _).alloc (by simp) _⟩, fun hr => ?_⟩
  exact of_decide_eq_true (enumB (fun d n m imm cond => decide (encL ⟨33, d, n, m, imm, cond⟩ = [bits .or .u16 (bits .or .u16 (bits .or .u16 30720 (IntKind.u16.wrap (IntKind.u16.wrap imm * 64))) (IntKind.u16.wrap (IntKind.u16.wrap n * 8))) (IntKind.u16.wrap d)])) 33 30720 [reg 0 0, reg 1 3, im 6 5 0 31 1] rfl (by decide) (by decide) (by decide +kernel) d n m imm cond hr)
set_option maxHeartbeats 4000000 in
set_option maxRecDepth 100000 in
theorem refEnc_34 (d n m imm cond : Int) (w : World) : Calls Try.prog 16 #[.agg #[.int .i64 34, .int .i64 d, .int .i64 n, .int .i64 m, .int .i64 imm, .int .i64 cond]] w (RefEnc ⟨34, d, n, m, imm, cond⟩ w) := by
  go_enter Try.func16, Try.ntmps16
  go_wp2_with (first | (go_at_call 31; refine (one_c _ _).mono ?_; rintro e w' ⟨rfl, rfl⟩))
  go_ret
  refine ⟨_, ⟨_, rfl, Blk.new' _ _ _ _ (by simp only [World.size_alloc]), ((Below.refl _ _).alloc (Nat.le_refl _) _).alloc (by simp) _⟩, fun hr => ?_⟩
  exact of_decide_eq_true (enumB (fun d n m imm cond => decide (encL ⟨34, d, n, m, imm, cond⟩ = [bits .or .u16 (bits .or .u16 (bits .or .u16 28672 (IntKind.u16.wrap (IntKind.u16.wrap imm * 64))) (IntKind.u16.wrap (IntKind.u16.wrap n * 8))) (IntKind.u16.wrap d)])) 34 28672 [reg 0 0, reg 1 3, im 6 5 0 31 1] rfl (by decide) (by decide) (by decide +kernel) d n m imm cond hr)
end Go.Proofs.Ytpihjhfaeloapaa
