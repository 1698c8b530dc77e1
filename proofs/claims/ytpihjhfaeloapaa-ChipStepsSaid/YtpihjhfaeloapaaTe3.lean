/- ref14.Encode, number by number. -/
import Derived.Test.YtpihjhfaeloapaaVe
import Derived.BigGuardPart
namespace Go.Proofs.Ytpihjhfaeloapaa
open Go.RowKit On Th
set_option maxHeartbeats 4000000 in
set_option maxRecDepth 100000 in
theorem refEnc_12 (d n m imm cond : Int) (w : World) : Calls Try.prog 16 #[.agg #[.int .i64 12, .int .i64 d, .int .i64 n, .int .i64 m, .int .i64 imm, .int .i64 cond]] w (RefEnc ⟨12, d, n, m, imm, cond⟩ w) := by
  go_enter Try.func16, Try.ntmps16
  go_wp2_with (first | (go_at_call 31; refine (one_c _ _).mono ?_; rintro e w' ⟨rfl, rfl⟩))
  go_ret
  refine ⟨_, ⟨_, rfl, Blk.new' _ _ _ _ (by simp only [World.size_alloc]), ((Below.refl _ _).alloc (Nat.le_refl _) _).alloc (by simp) _⟩, fun hr => ?_⟩
  exact of_decide_eq_true (enumB (fun d n m imm cond => decide (encL ⟨12, d, n, m, imm, cond⟩ = [bits .or .u16 (bits .or .u16 16384 (IntKind.u16.wrap (IntKind.u16.wrap m * 8))) (IntKind.u16.wrap d)])) 12 16384 [reg 0 0, reg 2 3] rfl (by decide) (by decide) (by decide +kernel) d n m imm cond hr)
set_option maxHeartbeats 4000000 in
set_option maxRecDepth 100000 in
theorem refEnc_13 (d n m imm cond : Int) (w : World) : Calls Try.prog 16 #[.agg #[.int .i64 13, .int .i64 d, .int .i64 n, .int .i64 m, .int .i64 imm, .int .i64 cond]] w (RefEnc ⟨13, d, n, m, imm, cond⟩ w) := by
  go_enter Try.func16, Try.ntmps16
  go_wp2_with (first | (go_at_call 31; refine (one_c _ _).mono ?_; rintro e w' ⟨rfl, rfl⟩))
  go_ret
  refine ⟨_, ⟨_, rfl, Blk.new' _ _ _ _ (by simp only [World.size_alloc]), ((Below.refl _ _).alloc (Nat.le_refl _) _).alloc (by simp) _⟩, fun hr => ?_⟩
  exact of_decide_eq_true (enumB (fun d n m imm cond => decide (encL ⟨13, d, n, m, imm, cond⟩ = [bits .or .u16 (bits .or .u16 16448 (IntKind.u16.wrap (IntKind.u16.wrap m * 8))) (IntKind.u16.wrap d)])) 13 16448 [reg 0 0, reg 2 3] rfl (by decide) (by decide) (by decide +kernel) d n m imm cond hr)
set_option maxHeartbeats 4000000 in
set_option maxRecDepth 100000 in
theorem refEnc_14 (d n m imm cond : Int) (w : World) : Calls Try.prog 16 #[.agg #[.int .i64 14, .int .i64 d, .int .i64 n, .int .i64 m, .int .i64 imm, .int .i64 cond]] w (RefEnc ⟨14, d, n, m, imm, cond⟩ w) := by
  go_enter Try.func16, Try.ntmps16
  go_wp2_with (first | (go_at_call 31; refine (one_c _ _).mono ?_; rintro e w' ⟨rfl, rfl⟩))
  go_ret
  refine ⟨_, ⟨_, rfl, Blk.new' _ _ _ _ (by simp only [World.size_alloc]), ((Below.refl _ _).alloc (Nat.le_refl _) _).alloc (by simp) _⟩, fun hr => ?_⟩
  exact of_decide_eq_true (enumB (fun d n m imm cond => decide (encL ⟨14, d, n, m, imm, cond⟩ = [bits .or .u16 (bits .or .u16 16512 (IntKind.u16.wrap (IntKind.u16.wrap m * 8))) (IntKind.u16.wrap d)])) 14 16512 [reg 0 0, reg 2 3] rfl (by decide) (by decide) (by decide +kernel) d n m imm cond hr)
set_option maxHeartbeats 4000000 in
set_option maxRecDepth 100000 in
theorem refEnc_15 (d n m imm cond : Int) (w : World) : Calls Try.prog 16 #[.agg #[.int .i64 15, .int .i64 d, .int .i64 n, .int .i64 m, .int .i64 imm, .int .i64 cond]] w (RefEnc ⟨15, d, n, m, imm, cond⟩ w) := by
  go_enter Try.func16, Try.ntmps16
  go_wp2_with (first | (go_at_call 31; refine (one_c _ _).mono ?_; rintro e w' ⟨rfl, rfl⟩))
  go_ret
  refine ⟨_, ⟨_, rfl, Blk.new' _ _ _ _ (by simp only [World.size_alloc]), ((Below.refl _ _).alloc (Nat.le_refl _) _).alloc (by simp) _⟩, fun hr => ?_⟩
  exact of_decide_eq_true (enumB (fun d n m imm cond => decide (encL ⟨15, d, n, m, imm, cond⟩ = [bits .or .u16 (bits .or .u16 16576 (IntKind.u16.wrap (IntKind.u16.wrap m * 8))) (IntKind.u16.wrap d)])) 15 16576 [reg 0 0, reg 2 3] rfl (by decide) (by decide) (by decide +kernel) d n m imm cond hr)
set_option maxHeartbeats 4000000 in
set_option maxRecDepth 100000 in
theorem refEnc_16 (d n m imm cond : Int) (w : World) : Calls Try.prog 16 #[.agg #[.int .i64 16, .int .i64 d, .int .i64 n, .int .i64 m, .int .i64 imm, .int .i64 cond]] w (RefEnc ⟨16, d, n, m, imm, cond⟩ w) := by
  go_enter Try.func16, Try.ntmps16
  go_wp2_with (first | (go_at_call 31; refine (one_c _ _).mono ?_; rintro e w' ⟨rfl, rfl⟩))
  go_ret
  refine ⟨_, ⟨_, rfl, Blk.new' _ _ _ _ (by simp only [World.size_alloc]), ((Below.refl _ _).alloc (Nat.le_refl _) _).alloc (by simp) _⟩, fun hr => ?_⟩
  exact of_decide_eq_true (enumB (fun d n m imm cond => decide (encL ⟨16, d, n, m, imm, cond⟩ = [bits .or .u16 (bits .or .u16 16640 (IntKind.u16.wrap (IntKind.u16.wrap m * 8))) (IntKind.u16.wrap d)])) 16 16640 [reg 0 0, reg 2 3] rfl (by decide) (by decide) (by decide +kernel) d n m imm cond hr)
set_option maxHeartbeats 4000000 in
set_option maxRecDepth 100000 in
theorem refEnc_17 (d n m imm cond : Int) (w : World) : Calls Try.prog 16 #[.agg #[.int .i64 17, .int .i64 d, .int .i64 n, .int .i64 m, .int .i64 imm, .int .i64 cond]] w (RefEnc ⟨17, d, n, m, imm, cond⟩ w) := by
  go_enter Try.func16, Try.ntmps16
  go_wp2_with (first | (go_at_call 31; refine (one_c _ _).mono ?_; rintro e w' ⟨rfl, rfl⟩))
  go_ret
  refine ⟨_, ⟨_, rfl, Blk.new' _ _ _ _ (by simp only [World.size_alloc]), ((Below.refl _ _).alloc (Nat.le_refl _) _).alloc (by simp) _⟩, fun hr => ?_⟩
  exact of_decide_eq_true (enumB (fun d n m imm cond => decide (encL ⟨17, d, n, m, imm, cond⟩ = [bits .or .u16 (bits .or .u16 16704 (IntKind.u16.wrap (IntKind.u16.wrap m * 8))) (IntKind.u16.wrap d)])) 17 16704 [reg 0 0, reg 2 3] rfl (by decide) (by decide) (by decide +kernel) d n m imm cond hr)
set_option maxHeartbeats 4000000 in
set_option maxRecDepth 100000 in
theorem refEnc_18 (d n m imm cond : Int) (w : World) : Calls Try.prog 16 #[.agg #[.int .i64 18, .int .i64 d, .int .i64 n, .int .i64 m, .int .i64 imm, .int .i64 cond]] w (RefEnc ⟨18, d, n, m, imm, cond⟩ w) := by
  go_enter Try.func16, Try.ntmps16
  go_wp2_with (first | (go_at_call 31; refine (one_c _ _).mono ?_; rintro e w' ⟨rfl, rfl⟩))
  go_ret
  refine ⟨_, ⟨_, rfl, Blk.new' _ _ _ _ (by simp only [World.size_alloc]), ((Below.refl _ _).alloc (Nat.le_refl _) _).alloc (by simp) _⟩, fun hr => ?_⟩
  exact of_decide_eq_true (enumB (fun d n m imm cond => decide (encL ⟨18, d, n, m, imm, cond⟩ = [bits .or .u16 (bits .or .u16 16768 (IntKind.u16.wrap (IntKind.u16.wrap m * 8))) (IntKind.u16.wrap d)])) 18 16768 [reg 0 0, reg 2 3] rfl (by decide) (by decide) (by decide +kernel) d n m imm cond hr)
set_option maxHeartbeats 4000000 in
set_option maxRecDepth 100000 in
theorem refEnc_19 (d n m imm cond : Int) (w : World) : Calls Try.prog 16 #[.agg #[.int .i64 19, .int .i64 d, .int .i64 n, .int .i64 m, .int .i64 imm, .int .i64 cond]] w (RefEnc ⟨19, d, n, m, imm, cond⟩ w) := by
  go_enter Try.func16, Try.ntmps16
  go_wp2_with (first | (go_at_call 31; refine (one_c _ _).mono ?_; rintro e w' ⟨rfl, rfl⟩))
  go_ret
  refine ⟨_, ⟨_, rfl, Blk.new' _ _ _ _ (by simp only [World.size_alloc]), ((Below.refl _ _).alloc (Nat.le_refl _) _).alloc (by simp) _⟩, fun hr => ?_⟩
  exact of_decide_eq_true (enumB (fun d n m imm cond => decide (encL ⟨19, d, n, m, imm, cond⟩ = [bits .or .u16 (bits .or .u16 16832 (IntKind.u16.wrap (IntKind.u16.wrap m * 8))) (IntKind.u16.wrap d)])) 19 16832 [reg 0 0, reg 2 3] rfl (by decide) (by decide) (by decide +kernel) d n m imm cond hr)
set_option maxHeartbeats 4000000 in
set_option maxRecDepth 100000 in
theorem refEnc_20 (d n m imm cond : Int) (w : World) : Calls Try.prog 16 #[.agg #[.int .i64 20, .int .i64 d, .int .i64 n, .int .i64 m, .int .i64 imm, .int .i64 cond]] w (RefEnc ⟨20, d, n, m, imm, cond⟩ w) := by
  go_enter Try.func16, Try.ntmps16
  go_wp2_with (first | (go_at_call 31; refine (one_c _ _).mono ?_; rintro e w' ⟨rfl, rfl⟩))
  go_ret
  refine ⟨_, ⟨_, rfl, Blk.new' _ _ _ _ (by simp only [World.size_alloc]), ((Below.refl _ _).alloc (Nat.le_refl _) _).alloc (by simp) _⟩, fun hr => ?_⟩
  exact of_decide_eq_true (enumB (fun d n m imm cond => decide (encL ⟨20, d, n, m, imm, cond⟩ = [bits .or .u16 (bits .or .u16 16896 (IntKind.u16.wrap (IntKind.u16.wrap m * 8))) (IntKind.u16.wrap d)])) 20 16896 [reg 0 0, reg 2 3] rfl (by decide) (by decide) (by decide +kernel) d n m imm cond hr)
set_option maxHeartbeats 4000000 in
set_option maxRecDepth 100000 in
theorem refEnc_21 (d n m imm cond : Int) (w : World) : Calls Try.prog 16 #[.agg #[.int .i64 21, .int .i64 d, .int .i64 n, .int .i64 m, .int .i64 imm, .int .i64 cond]] w (RefEnc ⟨21, d, n, m, imm, cond⟩ w) := by
  go_enter Try.func16, Try.ntmps16
  go_wp2_with (first | (go_at_call 31; refine (one_c _ _).mono ?_; rintro e w' ⟨rfl, rfl⟩))
  go_ret
  refine ⟨_, ⟨_, rfl, Blk.new' _ _ _ _ (by simp only [World.size_alloc]), ((Below.refl _ _).alloc (Nat.le_refl _) _).alloc (by simp) _⟩, fun hr => ?_⟩
  exact of_decide_eq_true (enumB (fun d n m imm cond => decide (encL ⟨21, d, n, m, imm, cond⟩ = [bits .or .u16 (bits .or .u16 16960 (IntKind.u16.wrap (IntKind.u16.wrap m * 8))) (IntKind.u16.wrap d)])) 21 16960 [reg 0 0, reg 2 3] rfl (by decide) (by decide) (by decide +kernel) d n m imm cond hr)
set_option maxHeartbeats 4000000 in
set_option maxRecDepth 100000 in
theorem refEnc_22 (d n m imm cond : Int) (w : World) : Calls Try.prog 16 #[.agg #[.int .i64 22, .int .i64 d, .int .i64 n, .int .i64 m, .int .i64 imm, .int .i64 cond]] w (RefEnc ⟨22, d, n, m, imm, cond⟩ w) := by
  go_enter Try.func16, Try.ntmps16
  go_wp2_with (first | (go_at_call 31; refine (one_c _ _).mono ?_; rintro e w' ⟨rfl, rfl⟩))
  go_ret
  refine ⟨_, ⟨_, rfl, Blk.new' _ _ _ _ (by simp only [World.size_alloc]), ((Below.refl _ _).alloc (Nat.le_refl _) _).alloc (by simp) _⟩, fun hr => ?_⟩
  exact of_decide_eq_true (enumB (fun d n m imm cond => decide (encL ⟨22, d, n, m, imm, cond⟩ = [bits .or .u16 (bits .or .u16 17024 (IntKind.u16.wrap (IntKind.u16.wrap m * 8))) (IntKind.u16.wrap d)])) 22 17024 [reg 0 0, reg 2 3] rfl (by decide) (by decide) (by decide +kernel) d n m imm cond hr)
set_option maxHeartbeats 4000000 in
set_option maxRecDepth 100000 in
theorem refEnc_23 (d n m imm cond : Int) (w : World) : Calls Try.prog 16 #[.agg #[.int .i64 23, .int .i64 d, .int .i64 n, .int .i64 m, .int .i64 imm, .int .i64 cond]] w (RefEnc ⟨23, d, n, m, imm, cond⟩ w) := by
  go_enter Try.func16, Try.ntmps16
  go_wp2_with (first | (go_at_call 31; refine (one_c _ _).mono ?_; rintro e w' ⟨rfl, rfl⟩))
  go_ret
  refine ⟨_, ⟨_, rfl, Blk.new' _ _ _ _ (by simp only [World.size_alloc]), ((Below.refl _ _).alloc (Nat.le_refl _) _).alloc (by simp) _⟩, fun hr => ?_⟩
  exact of_decide_eq_true (enumB (fun d n m imm cond => decide (encL ⟨23, d, n, m, imm, cond⟩ = [bits .or .u16 (bits .or .u16 17088 (IntKind.u16.wrap (IntKind.u16.wrap m * 8))) (IntKind.u16.wrap d)])) 23 17088 [reg 0 0, reg 2 3] rfl (by decide) (by decide) (by decide +kernel) d n m imm cond hr)
set_option maxHeartbeats 4000000 in
set_option maxRecDepth 100000 in
theorem refEnc_24 (d n m imm cond : Int) (w : World) : Calls Try.prog 16 #[.agg #[.int .i64 24, .int .i64 d, .int .i64 n, .int .i64 m, .int .i64 imm, .int .i64 cond]] w (RefEnc ⟨24, d, n, m, imm, cond⟩ w) := by
  go_enter Try.func16, Try.ntmps16
  go_wp2_with (first | (go_at_call 31; refine (one_c _ _).mono ?_; rintro e w' ⟨rfl, rfl⟩))
  go_ret
  refine ⟨_, ⟨_, rfl, Blk.new' _ _ _ _ (by simp only [World.size_alloc]), ((Below.refl _ _).alloc (Nat.le_refl _) _).alloc (by simp) _⟩, fun hr => ?_⟩
  exact of_decide_eq_true (enumB (fun d n m imm cond => decide (encL ⟨24, d, n, m, imm, cond⟩ = [bits .or .u16 (bits .or .u16 17152 (IntKind.u16.wrap (IntKind.u16.wrap m * 8))) (IntKind.u16.wrap d)])) 24 17152 [reg 0 0, reg 2 3] rfl (by decide) (by decide) (by decide +kernel) d n m imm cond hr)
set_option maxHeartbeats 4000000 in
set_option maxRecDepth 100000 in
theorem refEnc_25 (d n m imm cond : Int) (w : World) : Calls Try.prog 16 #[.agg #[.int .i64 25, .int .i64 d, .int .i64 n, .int .i64 m, .int .i64 imm, .int .i64 cond]] w (RefEnc ⟨25, d, n, m, imm, cond⟩ w) := by
  go_enter Try.func16, Try.ntmps16
  go_wp2_with (first | (go_at_call 31; refine (one_c _ _).mono ?_; rintro e w' ⟨rfl, rfl⟩))
  go_ret
  refine ⟨_, ⟨_, rfl, Blk.new' _ _ _ _ (by simp only [World.size_alloc]), ((Below.refl _ _).alloc (Nat.le_refl _) _).alloc (by simp) _⟩, fun hr => ?_⟩
  exact of_decide_eq_true (enumB (fun d n m imm cond => decide (encL ⟨25, d, n, m, imm, cond⟩ = [bits .or .u16 (bits .or .u16 17216 (IntKind.u16.wrap (IntKind.u16.wrap m * 8))) (IntKind.u16.wrap d)])) 25 17216 [reg 0 0, reg 2 3] rfl (by decide) (by decide) (by decide +kernel) d n m imm cond hr)
set_option maxHeartbeats 4000000 in
set_option maxRecDepth 100000 in
theorem refEnc_26 (d n m imm cond : Int) (w : World) : Calls Try.prog 16 #[.agg #[.int .i64 26, .int .i64 d, .int .i64 n, .int .i64 m, .int .i64 imm, .int .i64 cond]] w (RefEnc ⟨26, d, n, m, imm, cond⟩ w) := by
  go_enter Try.func16, Try.ntmps16
  go_wp2_with (first | (go_at_call 31; refine (one_c _ _).mono ?_; rintro e w' ⟨rfl, rfl⟩))
  go_ret
  refine ⟨_, ⟨_, rfl, Blk.new' _ _ _ _ (by simp only [World.size_alloc]), ((Below.refl _ _).alloc (Nat.le_refl _) _).alloc (by simp) _⟩, fun hr => ?_⟩
  exact of_decide_eq_true (enumB (fun d n m imm cond => decide (encL ⟨26, d, n, m, imm, cond⟩ = [bits .or .u16 (bits .or .u16 17280 (IntKind.u16.wrap (IntKind.u16.wrap m * 8))) (IntKind.u16.wrap d)])) 26 17280 [reg 0 0, reg 2 3] rfl (by decide) (by decide) (by decide +kernel) d n m imm cond hr)
set_option maxHeartbeats 4000000 in
set_option maxRecDepth 100000 in
theorem refEnc_27 (d n m imm cond : Int) (w : World) : Calls Try.prog 16 #[.agg #[.int .i64 27, .int .i64 d, .int .i64 n, .int .i64 m, .int .i64 imm, .int .i64 cond]] w (RefEnc ⟨27, d, n, m, imm, cond⟩ w) := by
  go_enter Try.func16, Try.ntmps16
  go_wp2_with (first | (go_at_call 31; refine (one_c _ _).mono ?_; rintro e w' ⟨rfl, rfl⟩))
  go_ret
  refine ⟨_, ⟨_, rfl, Blk.new' _ _ _ _ (by simp only [World.size_alloc]), ((Below.refl _ _).alloc (Nat.le_refl _) _).alloc (by simp) _⟩, fun hr => ?_⟩
  exact of_decide_eq_true (enumB (fun d n m imm cond => decide (encL ⟨27, d, n, m, imm, cond⟩ = [bits .or .u16 (bits .or .u16 17344 (IntKind.u16.wrap (IntKind.u16.wrap m * 8))) (IntKind.u16.wrap d)])) 27 17344 [reg 0 0, reg 2 3] rfl (by decide) (by decide) (by decide +kernel) d n m imm cond hr)
set_option maxHeartbeats 4000000 in
set_option maxRecDepth 100000 in
theorem refEnc_44 (d n m imm cond : Int) (w : World) : Calls Try.prog 16 #[.agg #[.int .i64 44, .int .i64 d, .int .i64 n, .int .i64 m, .int .i64 imm, .int .i64 cond]] w (RefEnc ⟨44, d, n, m, imm, cond⟩ w) := by
  go_enter Try.func16, Try.ntmps16
  go_wp2_with (first | (go_at_call 31; refine (one_c _ _).mono ?_; rintro e w' ⟨rfl, rfl⟩))
  go_ret
  refine ⟨_, ⟨_, rfl, Blk.new' _ _ _ _ (by simp only [World.size_alloc]), ((Below.refl _ _).alloc (Nat.le_refl _) _).alloc (by simp) _⟩, fun hr => ?_⟩
  exact of_decide_eq_true (enumB (fun d n m imm cond => decide (encL ⟨44, d, n, m, imm, cond⟩ = [bits .or .u16 57088 (IntKind.u16.wrap imm)])) 44 57088 [im 0 8 0 255 1] rfl (by decide) (by decide) (by decide +kernel) d n m imm cond hr)
set_option maxHeartbeats 4000000 in
set_option maxRecDepth 100000 in
theorem refEnc_45 (d n m imm cond : Int) (w : World) : Calls Try.prog 16 #[.agg #[.int .i64 45, .int .i64 d, .int .i64 n, .int .i64 m, .int .i64 imm, .int .i64 cond]] w (RefEnc ⟨45, d, n, m, imm, cond⟩ w) := by
  go_enter Try.func16, Try.ntmps16
  go_wp2_with (first | (go_at_call 31; refine (one_c _ _).mono ?_; rintro e w' ⟨rfl, rfl⟩))
  go_ret
  refine ⟨_, ⟨_, rfl, Blk.new' _ _ _ _ (by simp only [World.size_alloc]), ((Below.refl _ _).alloc (Nat.le_refl _) _).alloc (by simp) _⟩, fun hr => ?_⟩
  exact of_decide_eq_true (enumB (fun d n m imm cond => decide (encL ⟨45, d, n, m, imm, cond⟩ = [48896])) 45 48896 [] rfl (by decide) (by decide) (by decide +kernel) d n m imm cond hr)
set_option maxHeartbeats 4000000 in
set_option maxRecDepth 100000 in
theorem refEnc_37 (d n m imm cond : Int) (w : World) : Calls Try.prog 16 #[.agg #[.int .i64 37, .int .i64 d, .int .i64 n, .int .i64 m, .int .i64 imm, .int .i64 cond]] w (RefEnc ⟨37, d, n, m, imm, cond⟩ w) := by
  go_enter Try.func16, Try.ntmps16
  go_wp2_with (first | (go_at_call 31; refine (one_c _ _).mono ?_; rintro e w' ⟨rfl, rfl⟩))
  go_ret
  refine ⟨_, ⟨_, rfl, Blk.new' _ _ _ _ (by simp only [World.size_alloc]), ((Below.refl _ _).alloc (Nat.le_refl _) _).alloc (by simp) _⟩, fun hr => ?_⟩
  exact of_decide_eq_true (enumB (fun d n m imm cond => decide (encL ⟨37, d, n, m, imm, cond⟩ = [bits .or .u16 45056 (IntKind.u16.wrap (wrap64 (imm.tdiv 4)))])) 37 45056 [im 0 7 0 508 4] rfl (by decide) (by decide) (by decide +kernel) d n m imm cond hr)
set_option maxHeartbeats 4000000 in
set_option maxRecDepth 100000 in
theorem refEnc_38 (d n m imm cond : Int) (w : World) : Calls Try.prog 16 #[.agg #[.int .i64 38, .int .i64 d, .int .i64 n, .int .i64 m, .int .i64 imm, .int .i64 cond]] w (RefEnc ⟨38, d, n, m, imm, cond⟩ w) := by
  go_enter Try.func16, Try.ntmps16
  go_wp2_with (first | (go_at_call 31; refine (one_c _ _).mono ?_; rintro e w' ⟨rfl, rfl⟩))
  go_ret
  refine ⟨_, ⟨_, rfl, Blk.new' _ _ _ _ (by simp only [World.size_alloc]), ((Below.refl _ _).alloc (Nat.le_refl _) _).alloc (by simp) _⟩, fun hr => ?_⟩
  exact of_decide_eq_true (enumB (fun d n m imm cond => decide (encL ⟨38, d, n, m, imm, cond⟩ = [bits .or .u16 45184 (IntKind.u16.wrap (wrap64 (imm.tdiv 4)))])) 38 45184 [im 0 7 0 508 4] rfl (by decide) (by decide) (by decide +kernel) d n m imm cond hr)
end Go.Proofs.Ytpihjhfaeloapaa
