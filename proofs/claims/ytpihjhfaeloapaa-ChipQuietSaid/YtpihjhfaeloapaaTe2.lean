/- ref14.Encode, number by number. -/
import Derived.Test.YtpihjhfaeloapaaTe0
import Derived.BigGuardPart
namespace Go.Proofs.Ytpihjhfaeloapaa
open Go.RowKit On Th
set_option maxHeartbeats 4000000 in
set_option maxRecDepth 100000 in
theorem refEnc_8 (d n m imm cond : Int) (w : World) : Calls Try.prog 16 #[.agg #[.int .i64 8, .int .i64 d, .int .i64 n, .int .i64 m, .int .i64 imm, .int .i64 cond]] w (RefEnc ⟨8, d, n, m, imm, cond⟩ w) := by
  go_enter Try.func16, Try.ntmps16
  go_wp2_with (first | (go_at_call 31; refine (one_c _ _).mono ?_; rintro e w' ⟨rfl, rfl⟩))
  go_ret
  refine ⟨_, ⟨_, rfl, Blk.new' _ _ _ _ (by simp only [World.size_alloc]), ((Below.refl _ _).alloc (Nat.le_refl _) _).alloc (by simp) _⟩, fun hr => ?_⟩
  exact of_decide_eq_true (enumB (fun d n m imm cond => decide (encL ⟨8, d, n, m, imm, cond⟩ = [bits .or .u16 (bits .or .u16 8192 (IntKind.u16.wrap (IntKind.u16.wrap d * 256))) (IntKind.u16.wrap imm)])) 8 8192 [reg 0 8, im 0 8 0 255 1] rfl (by decide) (by decide) (by decide +kernel) d n m imm cond hr)
set_option maxHeartbeats 4000000 in
set_option maxRecDepth 100000 in
theorem refEnc_9 (d n m imm cond : Int) (w : World) : Calls Try.prog 16 #[.agg #[.int .i64 9, .int .i64 d, .int .i64 n, .int .i64 m, .int .i64 imm, .int .i64 cond]] w (RefEnc ⟨9, d, n, m, imm, cond⟩ w) := by
  go_enter Try.func16, Try.ntmps16
  go_wp2_with (first | (go_at_call 31; refine (one_c _ _).mono ?_; rintro e w' ⟨rfl, rfl⟩))
  go_ret
  refine ⟨_, ⟨_, rfl, Blk.new' _ _ _ _ (by simp only [World.size_alloc]), ((Below.refl _ _).alloc (Nat.le_refl _) _).alloc (by simp) _⟩, fun hr => ?_⟩
  exact of_decide_eq_true (enumB (fun d n m imm cond => decide (encL ⟨9, d, n, m, imm, cond⟩ = [bits .or .u16 (bits .or .u16 10240 (IntKind.u16.wrap (IntKind.u16.wrap d * 256))) (IntKind.u16.wrap imm)])) 9 10240 [reg 0 8, im 0 8 0 255 1] rfl (by decide) (by decide) (by decide +kernel) d n m imm cond hr)
set_option maxHeartbeats 4000000 in
set_option maxRecDepth 100000 in
theorem refEnc_10 (d n m imm cond : Int) (w : World) : Calls Try.prog 16 #[.agg #[.int .i64 10, .int .i64 d, .int .i64 n, .int .i64 m, .int .i64 imm, .int .i64 cond]] w (RefEnc ⟨10, d, n, m, imm, cond⟩ w) := by
  go_enter Try.func16, Try.ntmps16
  go_wp2_with (first | (go_at_call 31; refine (one_c _ _).mono ?_; rintro e w' ⟨rfl, rfl⟩))
  go_ret
  refine ⟨_, ⟨_, rfl, Blk.new' _ _ _ _ (by simp only [World.size_alloc]), ((Below.refl _ _).alloc (Nat.le_refl _) _).alloc (by simp) _⟩, fun hr => ?_⟩
  exact of_decide_eq_true (enumB (fun d n m imm cond => decide (encL ⟨10, d, n, m, imm, cond⟩ = [bits .or .u16 (bits .or .u16 12288 (IntKind.u16.wrap (IntKind.u16.wrap d * 256))) (IntKind.u16.wrap imm)])) 10 12288 [reg 0 8, im 0 8 0 255 1] rfl (by decide) (by decide) (by decide +kernel) d n m imm cond hr)
set_option maxHeartbeats 4000000 in
set_option maxRecDepth 100000 in
theorem refEnc_11 (d n m imm cond : Int) (w : World) : Calls Try.prog 16 #[.agg #[.int .i64 11, .int .i64 d, .int .i64 n, .int .i64 m, .int .i64 imm, .int .i64 cond]] w (RefEnc ⟨11, d, n, m, imm, cond⟩ w) := by
  go_enter Try.func16, Try.ntmps16
  go_wp2_with (first | (go_at_call 31; refine (one_c _ _).mono ?_; rintro e w' ⟨rfl, rfl⟩))
  go_ret
  refine ⟨_, ⟨_, rfl, Blk.new' _ _ _ _ (by simp only [World.size_alloc]), ((Below.refl _ _).alloc (Nat.le_refl _) _).alloc (by simp) _⟩, fun hr => ?_⟩
  exact of_decide_eq_true (enumB (fun d n m imm cond => decide (encL ⟨11, d, n, m, imm, cond⟩ = [bits .or .u16 (bits .or .u16 14336 (IntKind.u16.wrap (IntKind.u16.wrap d * 256))) (IntKind.u16.wrap imm)])) 11 14336 [reg 0 8, im 0 8 0 255 1] rfl (by decide) (by decide) (by decide +kernel) d n m imm cond hr)
end Go.Proofs.Ytpihjhfaeloapaa
