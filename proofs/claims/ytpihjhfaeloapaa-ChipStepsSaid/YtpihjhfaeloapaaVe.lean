/- MERGED by mergev.py: XTe0 XTe1 XTe2 XTe4 XTe5. -/
import Derived.Test.YtpihjhfaeloapaaVc
import Derived.Test.YtpihjhfaeloapaaVd
import Derived.Test.YtpihjhfaeloapaaVb
import Derived.BigGuardPart
namespace Go.Proofs.Ytpihjhfaeloapaa
open Go.RowKit On Th
/-- one halfword, in new memory -/
def OneAt (x : Int) (w : World) (e : Ending) (w' : World) : Prop := ∃ g, e = .returned (.slice (some ⟨g, 0, none⟩) 1 1) ∧ Blk w' g 79 #[.int .u16 x] ∧ Below w.heap.size w w'
theorem one_c (x : Int) (w : World) : Calls Try.prog 31 #[.int .u16 x] w fun e w' => e = .returned (.slice (some ⟨w.heap.size, 0, none⟩) 1 1) ∧ w' = w.alloc (.cells #[.int .u16 x] 79) := by
  go_enter Try.func31, Try.ntmps31
  go_wp2_with fail
  go_ret
  exact ⟨rfl, rfl⟩
theorem enumB (B : Int → Int → Int → Int → Int → Bool) (op b : Int) (l : List Sl) (hrow : rowOf op = some (b, l)) (h28 : op ≠ 28) (h43 : op ≠ 43)
    (hall : ((domS l 0).all fun d => (domS l 1).all fun n => (domS l 2).all fun m => (domS l 3).all fun imm => (domS l 4).all fun c => B d n m imm c) = true)
    (d n m imm c : Int) (hr : rightS ⟨op, d, n, m, imm, c⟩ = true) : B d n m imm c = true := by
  unfold rightS at hr
  rw [if_neg h28, if_neg h43] at hr
  dsimp only at hr
  rw [hrow] at hr
  dsimp only at hr
  have hs := rowOf_ok2 hrow
  unfold rowOk at hr
  simp only [Bool.and_eq_true] at hr
  obtain ⟨⟨⟨⟨r1, r2⟩, r3⟩, r4⟩, r5⟩ := hr
  rw [List.all_eq_true] at hall
  have hall := hall d (dom_mem hs r1)
  rw [List.all_eq_true] at hall
  have hall := hall n (dom_mem hs r2)
  rw [List.all_eq_true] at hall
  have hall := hall m (dom_mem hs r3)
  rw [List.all_eq_true] at hall
  have hall := hall imm (dom_mem hs r4)
  rw [List.all_eq_true] at hall
  exact hall c (dom_mem hs r5)
/-- the document's halfwords -/
def RefEnc (i : Ins) (w : World) (e : Ending) (w' : World) : Prop := ∃ x, OneAt x w e w' ∧ (rightS i = true → encL i = [x])
end Go.Proofs.Ytpihjhfaeloapaa
namespace Go.Proofs.Ytpihjhfaeloapaa
open Go.RowKit On Th
set_option maxHeartbeats 4000000 in
set_option maxRecDepth 100000 in
theorem refEnc_1 (d n m imm cond : Int) (w : World) : Calls Try.prog 16 #[.agg #[.int .i64 1, .int .i64 d, .int .i64 n, .int .i64 m, .int .i64 imm, .int .i64 cond]] w (RefEnc ⟨1, d, n, m, imm, cond⟩ w) := by
  go_enter Try.func16, Try.ntmps16
  go_wp2_with (first | (go_at_call 31; refine (one_c _ _).mono ?_; rintro e w' ⟨rfl, rfl⟩))
  go_ret
  refine ⟨_, ⟨_, rfl, Blk.new' _ _ _ _ (by simp only [World.size_alloc]), ((Below.refl _ _).alloc (Nat.le_refl _) _).alloc (by simp) _⟩, fun hr => ?_⟩
  exact of_decide_eq_true (enumB (fun d n m imm cond => decide (encL ⟨1, d, n, m, imm, cond⟩ = [bits .or .u16 (bits .or .u16 (bits .or .u16 0 (IntKind.u16.wrap (IntKind.u16.wrap (imm.tmod 32) * 64))) (IntKind.u16.wrap (IntKind.u16.wrap m * 8))) (IntKind.u16.wrap d)])) 1 0 [reg 0 0, reg 2 3, im 6 5 0 31 1] rfl (by decide) (by decide) (by decide +kernel) d n m imm cond hr)
set_option maxHeartbeats 4000000 in
set_option maxRecDepth 100000 in
theorem refEnc_2 (d n m imm cond : Int) (w : World) : Calls Try.prog 16 #[.agg #[.int .i64 2, .int .i64 d, .int .i64 n, .int .i64 m, .int .i64 imm, .int .i64 cond]] w (RefEnc ⟨2, d, n, m, imm, cond⟩ w) := by
  go_enter Try.func16, Try.ntmps16
  go_wp2_with (first | (go_at_call 31; refine (one_c _ _).mono ?_; rintro e w' ⟨rfl, rfl⟩))
  go_ret
  refine ⟨_, ⟨_, rfl, Blk.new' _ _ _ _ (by simp only [World.size_alloc]), ((Below.refl _ _).alloc (Nat.le_refl _) _).alloc (by simp) _⟩, fun hr => ?_⟩
  exact of_decide_eq_true (enumB (fun d n m imm cond => decide (encL ⟨2, d, n, m, imm, cond⟩ = [bits .or .u16 (bits .or .u16 (bits .or .u16 2048 (IntKind.u16.wrap (IntKind.u16.wrap (imm.tmod 32) * 64))) (IntKind.u16.wrap (IntKind.u16.wrap m * 8))) (IntKind.u16.wrap d)])) 2 2048 [reg 0 0, reg 2 3, im 6 5 1 32 1] rfl (by decide) (by decide) (by decide +kernel) d n m imm cond hr)
set_option maxHeartbeats 4000000 in
set_option maxRecDepth 100000 in
theorem refEnc_3 (d n m imm cond : Int) (w : World) : Calls Try.prog 16 #[.agg #[.int .i64 3, .int .i64 d, .int .i64 n, .int .i64 m, .int .i64 imm, .int .i64 cond]] w (RefEnc ⟨3, d, n, m, imm, cond⟩ w) := by
  go_enter Try.func16, Try.ntmps16
  go_wp2_with (first | (go_at_call 31; refine (one_c _ _).mono ?_; rintro e w' ⟨rfl, rfl⟩))
  go_ret
  refine ⟨_, ⟨_, rfl, Blk.new' _ _ _ _ (by simp only [World.size_alloc]), ((Below.refl _ _).alloc (Nat.le_refl _) _).alloc (by simp) _⟩, fun hr => ?_⟩
  exact of_decide_eq_true (enumB (fun d n m imm cond => decide (encL ⟨3, d, n, m, imm, cond⟩ = [bits .or .u16 (bits .or .u16 (bits .or .u16 4096 (IntKind.u16.wrap (IntKind.u16.wrap (imm.tmod 32) * 64))) (IntKind.u16.wrap (IntKind.u16.wrap m * 8))) (IntKind.u16.wrap d)])) 3 4096 [reg 0 0, reg 2 3, im 6 5 1 32 1] rfl (by decide) (by decide) (by decide +kernel) d n m imm cond hr)
set_option maxHeartbeats 4000000 in
set_option maxRecDepth 100000 in
theorem refEnc_4 (d n m imm cond : Int) (w : World) : Calls Try.prog 16 #[.agg #[.int .i64 4, .int .i64 d, .int .i64 n, .int .i64 m, .int .i64 imm, .int .i64 cond]] w (RefEnc ⟨4, d, n, m, imm, cond⟩ w) := by
  go_enter Try.func16, Try.ntmps16
  go_wp2_with (first | (go_at_call 31; refine (one_c _ _).mono ?_; rintro e w' ⟨rfl, rfl⟩))
  go_ret
  refine ⟨_, ⟨_, rfl, Blk.new' _ _ _ _ (by simp only [World.size_alloc]), ((Below.refl _ _).alloc (Nat.le_refl _) _).alloc (by simp) _⟩, fun hr => ?_⟩
  exact of_decide_eq_true (enumB (fun d n m imm cond => decide (encL ⟨4, d, n, m, imm, cond⟩ = [bits .or .u16 (bits .or .u16 (bits .or .u16 6144 (IntKind.u16.wrap (IntKind.u16.wrap m * 64))) (IntKind.u16.wrap (IntKind.u16.wrap n * 8))) (IntKind.u16.wrap d)])) 4 6144 [reg 0 0, reg 1 3, reg 2 6] rfl (by decide) (by decide) (by decide +kernel) d n m imm cond hr)
set_option maxHeartbeats 4000000 in
set_option maxRecDepth 100000 in
theorem refEnc_5 (d n m imm cond : Int) (w : World) : Calls Try.prog 16 #[.agg #[.int .i64 5, .int .i64 d, .int .i64 n, .int .i64 m, .int .i64 imm, .int .i64 cond]] w (RefEnc ⟨5, d, n, m, imm, cond⟩ w) := by
  go_enter Try.func16, Try.ntmps16
  go_wp2_with (first | (go_at_call 31; refine (one_c _ _).mono ?_; rintro e w' ⟨rfl, rfl⟩))
  go_ret
  refine ⟨_, ⟨_, rfl, Blk.new' _ _ _ _ (by simp only [World.size_alloc]), ((Below.refl _ _).alloc (Nat.le_refl _) _).alloc (by simp) _⟩, fun hr => ?_⟩
  exact of_decide_eq_true (enumB (fun d n m imm cond => decide (encL ⟨5, d, n, m, imm, cond⟩ = [bits .or .u16 (bits .or .u16 (bits .or .u16 6656 (IntKind.u16.wrap (IntKind.u16.wrap m * 64))) (IntKind.u16.wrap (IntKind.u16.wrap n * 8))) (IntKind.u16.wrap d)])) 5 6656 [reg 0 0, reg 1 3, reg 2 6] rfl (by decide) (by decide) (by decide +kernel) d n m imm cond hr)
set_option maxHeartbeats 4000000 in
set_option maxRecDepth 100000 in
theorem refEnc_6 (d n m imm cond : Int) (w : World) : Calls Try.prog 16 #[.agg #[.int .i64 6, .int .i64 d, .int .i64 n, .int .i64 m, .int .i64 imm, .int .i64 cond]] w (RefEnc ⟨6, d, n, m, imm, cond⟩ w) := by
  go_enter Try.func16, Try.ntmps16
  go_wp2_with (first | (go_at_call 31; refine (one_c _ _).mono ?_; rintro e w' ⟨rfl, rfl⟩))
  go_ret
  refine ⟨_, ⟨_, rfl, Blk.new' _ _ _ _ (by simp only [World.size_alloc]), ((Below.refl _ _).alloc (Nat.le_refl _) _).alloc (by simp) _⟩, fun hr => ?_⟩
  exact of_decide_eq_true (enumB (fun d n m imm cond => decide (encL ⟨6, d, n, m, imm, cond⟩ = [bits .or .u16 (bits .or .u16 (bits .or .u16 7168 (IntKind.u16.wrap (IntKind.u16.wrap imm * 64))) (IntKind.u16.wrap (IntKind.u16.wrap n * 8))) (IntKind.u16.wrap d)])) 6 7168 [reg 0 0, reg 1 3, reg 3 6] rfl (by decide) (by decide) (by decide +kernel) d n m imm cond hr)
set_option maxHeartbeats 4000000 in
set_option maxRecDepth 100000 in
theorem refEnc_7 (d n m imm cond : Int) (w : World) : Calls Try.prog 16 #[.agg #[.int .i64 7, .int .i64 d, .int .i64 n, .int .i64 m, .int .i64 imm, .int .i64 cond]] w (RefEnc ⟨7, d, n, m, imm, cond⟩ w) := by
  go_enter Try.func16, Try.ntmps16
  go_wp2_with (first | (go_at_call 31; refine (one_c _ _).mono ?_; rintro e w' ⟨rfl, rfl⟩))
  go_ret
  refine ⟨_, ⟨_, rfl, Blk.new' _ _ _ _ (by simp only [World.size_alloc]), ((Below.refl _ _).alloc (Nat.le_refl _) _).alloc (by simp) _⟩, fun hr => ?_⟩
  exact of_decide_eq_true (enumB (fun d n m imm cond => decide (encL ⟨7, d, n, m, imm, cond⟩ = [bits .or .u16 (bits .or .u16 (bits .or .u16 7680 (IntKind.u16.wrap (IntKind.u16.wrap imm * 64))) (IntKind.u16.wrap (IntKind.u16.wrap n * 8))) (IntKind.u16.wrap d)])) 7 7680 [reg 0 0, reg 1 3, reg 3 6] rfl (by decide) (by decide) (by decide +kernel) d n m imm cond hr)
end Go.Proofs.Ytpihjhfaeloapaa
namespace Go.Proofs.Ytpihjhfaeloapaa
open Go.RowKit On Th
set_option maxHeartbeats 4000000 in
set_option maxRecDepth 100000 in
theorem refEnc_8 (d n m imm cond : Int) (w : World) : Calls Try.prog 16 #[.agg #[.int .i64 8, .int .i64 d, .int .i64 n, .int .i64 m, .int .i64 imm, .int .i64 cond]] w (RefEnc ⟨8, d, n, m, imm, cond⟩ w) := by
  go_enter Try.func16, Try.ntmps16
  go_wp2_with (first | (go_at_call 31; refine (one_c _ _).mono ?_; rintro e w' ⟨rfl, rfl⟩))
  go_ret
  refine ⟨_, ⟨_, rfl, Blk.new' _ _ _ _ (by simp only [World.size_alloc]), ((Below.refl _ _).alloc (Nat.le_refl _) _).alloc (by simp) _⟩, fun hr => ?_⟩
  exact of_decide_eq_true (enumB (fun d n m imm cond => decide (encL ⟨8, d, n, m, imm, cond⟩ = [bits .or .u16 (bits .or .u16 8192 (IntKind.u16.wrap (IntKind.u16.wrap d * 256))) (IntKind.u16.wrap imm)])) 8 8192 [reg 0 8, im 0 8 0 255 1] rfl (by decide) (by decide) (by decide +kernel) d n m imm cond hr)
set_option maxHeartbeats 4000000 in
set_option maxRecDepth 100000 in
theorem refEnc_9 (d n m imm cond : Int) (w : World) : Calls Try.prog 16 #[.agg #[.int .i64 9, .int .i64 d, .int .i64 n, .int .i64 m, .int .i64 imm, .int .i64 cond]] w (RefEnc ⟨9, d, n, m, imm, cond⟩ w) := by
  go_enter Try.func16, Try.ntmps16
  go_wp2_with (first | (go_at_call 31; refine (one_c _ _).mono ?_; rintro e w' ⟨rfl, rfl⟩))
  go_ret
  refine ⟨_, ⟨_, rfl, Blk.new' _ _ _ _ (by simp only [World.size_alloc]), ((Below.refl _ _).alloc (Nat.le_refl _) _).alloc (by simp) _⟩, fun hr => ?_⟩
  exact of_decide_eq_true (enumB (fun d n m imm cond => decide (encL ⟨9, d, n, m, imm, cond⟩ = [bits .or .u16 (bits .or .u16 10240 (IntKind.u16.wrap (IntKind.u16.wrap d * 256))) (IntKind.u16.wrap imm)])) 9 10240 [reg 0 8, im 0 8 0 255 1] rfl (by decide) (by decide) (by decide +kernel) d n m imm cond hr)
set_option maxHeartbeats 4000000 in
set_option maxRecDepth 100000 in
theorem refEnc_10 (d n m imm cond : Int) (w : World) : Calls Try.prog 16 #[.agg #[.int .i64 10, .int .i64 d, .int .i64 n, .int .i64 m, .int .i64 imm, .int .i64 cond]] w (RefEnc ⟨10, d, n, m, imm, cond⟩ w) := by
  go_enter Try.func16, Try.ntmps16
  go_wp2_with (first | (go_at_call 31; refine (one_c _ _).mono ?_; rintro e w' ⟨rfl, rfl⟩))
  go_ret
  refine ⟨_, ⟨_, rfl, Blk.new' _ _ _ _ (by simp only [World.size_alloc]), ((Below.refl _ _).alloc (Nat.le_refl _) _).alloc (by simp) _⟩, fun hr => ?_⟩
  exact of_decide_eq_true (enumB (fun d n m imm cond => decide (encL ⟨10, d, n, m, imm, cond⟩ = [bits .or .u16 (bits .or .u16 12288 (IntKind.u16.wrap (IntKind.u16.wrap d * 256))) (IntKind.u16.wrap imm)])) 10 12288 [reg 0 8, im 0 8 0 255 1] rfl (by decide) (by decide) (by decide +kernel) d n m imm cond hr)
set_option maxHeartbeats 4000000 in
set_option maxRecDepth 100000 in
theorem refEnc_11 (d n m imm cond : Int) (w : World) : Calls Try.prog 16 #[.agg #[.int .i64 11, .int .i64 d, .int .i64 n, .int .i64 m, .int .i64 imm, .int .i64 cond]] w (RefEnc ⟨11, d, n, m, imm, cond⟩ w) := by
  go_enter Try.func16, Try.ntmps16
  go_wp2_with (first | (go_at_call 31; refine (one_c _ _).mono ?_; rintro e w' ⟨rfl, rfl⟩))
  go_ret
  refine ⟨_, ⟨_, rfl, Blk.new' _ _ _ _ (by simp only [World.size_alloc]), ((Below.refl _ _).alloc (Nat.le_refl _) _).alloc (by simp) _⟩, fun hr => ?_⟩
  exact of_decide_eq_true (enumB (fun d n m imm cond => decide (encL ⟨11, d, n, m, imm, cond⟩ = [bits .or .u16 (bits .or .u16 14336 (IntKind.u16.wrap (IntKind.u16.wrap d * 256))) (IntKind.u16.wrap imm)])) 11 14336 [reg 0 8, im 0 8 0 255 1] rfl (by decide) (by decide) (by decide +kernel) d n m imm cond hr)
end Go.Proofs.Ytpihjhfaeloapaa
namespace Go.Proofs.Ytpihjhfaeloapaa
open Go.RowKit On Th
set_option maxHeartbeats 4000000 in
set_option maxRecDepth 100000 in
theorem refEnc_29 (d n m imm cond : Int) (w : World) : Calls Try.prog 16 #[.agg #[.int .i64 29, .int .i64 d, .int .i64 n, .int .i64 m, .int .i64 imm, .int .i64 cond]] w (RefEnc ⟨29, d, n, m, imm, cond⟩ w) := by
  go_enter Try.func16, Try.ntmps16
  go_wp2_with (first | (go_at_call 31; refine (one_c _ _).mono ?_; rintro e w' ⟨rfl, rfl⟩))
  go_ret
  refine ⟨_, ⟨_, rfl, Blk.new' _ _ _ _ (by simp only [World.size_alloc]), ((Below.refl _ _).alloc (Nat.le_refl _) _).alloc (by simp) _⟩, fun hr => ?_⟩
  exact of_decide_eq_true (enumB (fun d n m imm cond => decide (encL ⟨29, d, n, m, imm, cond⟩ = [bits .or .u16 (bits .or .u16 (bits .or .u16 22528 (IntKind.u16.wrap (IntKind.u16.wrap m * 64))) (IntKind.u16.wrap (IntKind.u16.wrap n * 8))) (IntKind.u16.wrap d)])) 29 22528 [reg 0 0, reg 1 3, reg 2 6] rfl (by decide) (by decide) (by decide +kernel) d n m imm cond hr)
set_option maxHeartbeats 4000000 in
set_option maxRecDepth 100000 in
theorem refEnc_30 (d n m imm cond : Int) (w : World) : Calls Try.prog 16 #[.agg #[.int .i64 30, .int .i64 d, .int .i64 n, .int .i64 m, .int .i64 imm, .int .i64 cond]] w (RefEnc ⟨30, d, n, m, imm, cond⟩ w) := by
  go_enter Try.func16, Try.ntmps16
  go_wp2_with (first | (go_at_call 31; refine (one_c _ _).mono ?_; rintro e w' ⟨rfl, rfl⟩))
  go_ret
  refine ⟨_, ⟨_, rfl, Blk.new' _ _ _ _ (by simp only [World.size_alloc]), ((Below.refl _ _).alloc (Nat.le_refl _) _).alloc (by simp) _⟩, fun hr => ?_⟩
  exact of_decide_eq_true (enumB (fun d n m imm cond => decide (encL ⟨30, d, n, m, imm, cond⟩ = [bits .or .u16 (bits .or .u16 (bits .or .u16 20480 (IntKind.u16.wrap (IntKind.u16.wrap m * 64))) (IntKind.u16.wrap (IntKind.u16.wrap n * 8))) (IntKind.u16.wrap d)])) 30 20480 [reg 0 0, reg 1 3, reg 2 6] rfl (by decide) (by decide) (by decide +kernel) d n m imm cond hr)
set_option maxHeartbeats 4000000 in
set_option maxRecDepth 100000 in
theorem refEnc_31 (d n m imm cond : Int) (w : World) : Calls Try.prog 16 #[.agg #[.int .i64 31, .int .i64 d, .int .i64 n, .int .i64 m, .int .i64 imm, .int .i64 cond]] w (RefEnc ⟨31, d, n, m, imm, cond⟩ w) := by
  go_enter Try.func16, Try.ntmps16
  go_wp2_with (first | (go_at_call 31; refine (one_c _ _).mono ?_; rintro e w' ⟨rfl, rfl⟩))
  go_ret
  refine ⟨_, ⟨_, rfl, Blk.new' _ _ _ _ (by simp only [World.size_alloc]), ((Below.refl _ _).alloc (Nat.le_refl _) _).alloc (by simp) _⟩, fun hr => ?_⟩
  exact of_decide_eq_true (enumB (fun d n m imm cond => decide (encL ⟨31, d, n, m, imm, cond⟩ = [bits .or .u16 (bits .or .u16 (bits .or .u16 26624 (IntKind.u16.wrap (IntKind.u16.wrap (wrap64 (imm.tdiv 4)) * 64))) (IntKind.u16.wrap (IntKind.u16.wrap n * 8))) (IntKind.u16.wrap d)])) 31 26624 [reg 0 0, reg 1 3, im 6 5 0 124 4] rfl (by decide) (by decide) (by decide +kernel) d n m imm cond hr)
set_option maxHeartbeats 4000000 in
set_option maxRecDepth 100000 in
theorem refEnc_32 (d n m imm cond : Int) (w : World) : Calls Try.prog 16 #[.agg #[.int .i64 32, .int .i64 d, .int .i64 n, .int .i64 m, .int .i64 imm, .int .i64 cond]] w (RefEnc ⟨32, d, n, m, imm, cond⟩ w) := by
  go_enter Try.func16, Try.ntmps16
  go_wp2_with (first | (go_at_call 31; refine (one_c _ _).mono ?_; rintro e w' ⟨rfl, rfl⟩))
  go_ret
  refine ⟨_, ⟨_, rfl, Blk.new' _ _ _ _ (by simp only [World.size_alloc]), ((Below.refl _ _).alloc (Nat.le_refl _) _).alloc (by simp) _⟩, fun hr => ?_⟩
  exact of_decide_eq_true (enumB (fun d n m imm cond => decide (encL ⟨32, d, n, m, imm, cond⟩ = [bits .or .u16 (bits .or .u16 (bits .or .u16 24576 (IntKind.u16.wrap (IntKind.u16.wrap (wrap64 (imm.tdiv 4)) * 64))) (IntKind.u16.wrap (IntKind.u16.wrap n * 8))) (IntKind.u16.wrap d)])) 32 24576 [reg 0 0, reg 1 3, im 6 5 0 124 4] rfl (by decide) (by decide) (by decide +kernel) d n m imm cond hr)
set_option maxHeartbeats 4000000 in
set_option maxRecDepth 100000 in
theorem refEnc_33 (d n m imm cond : Int) (w : World) : Calls Try.prog 16 #[.agg #[.int .i64 33, .int .i64 d, .int .i64 n, .int .i64 m, .int .i64 imm, .int .i64 cond]] w (RefEnc ⟨33, d, n, m, imm, cond⟩ w) := by
  go_enter Try.func16, Try.ntmps16
  go_wp2_with (first | (go_at_call 31; refine (one_c _ _).mono ?_; rintro e w' ⟨rfl, rfl⟩))
  go_ret
  refine ⟨_, ⟨_, rfl, Blk.new' _ _ _ _ (by simp only [World.size_alloc]), ((Below.refl _ _).alloc (Nat.le_refl _) _).alloc (by simp) _⟩, fun hr => ?_⟩
  exact of_decide_eq_true (enumB (fun d n m imm cond => decide (encL ⟨33, d, n, m, imm, cond⟩ = [bits .or .u16 (bits .or .u16 (bits .or .u16 30720 (IntKind.u16.wrap (IntKind.u16.wrap imm * 64))) (IntKind.u16.wrap (IntKind.u16.wrap n * 8))) (IntKind.u16.wrap d)])) 33 30720 [reg 0 0, reg 1 3, im 6 5 0 31 1] rfl (by decide) (by decide) (by decide +kernel) d n m imm cond hr)
set_option maxHeartbeats 4000000 in
set_option maxRecDepth 100000 in
theorem refEnc_34 (d n m imm cond : Int) (w : World) : Calls Try.prog 16 #[.agg #[.int .i64 34, .int .i64 d, .int .i64 n, .int .i64 m, .int .i64 imm, .int .i64 cond]] w (RefEnc ⟨34, d, n, m, imm, cond⟩ w) := by
  go_enter Try.func16, Try.ntmps16
  go_wp2_with (first | (go_at_call 31; refine (one_c _ _).mono ?_; rintro e w' ⟨rfl, rfl⟩))
  go_ret
  refine ⟨_, ⟨_, rfl, Blk.new' _ _ _ _ (by simp only [World.size_alloc]), ((Below.refl _ _).alloc (Nat.le_refl _) _).alloc (by simp) _⟩, fun hr => ?_⟩
  exact of_decide_eq_true (enumB (fun d n m imm cond => decide (encL ⟨34, d, n, m, imm, cond⟩ = [bits .or .u16 (bits .or .u16 (bits .or .u16 28672 (IntKind.u16.wrap (IntKind.u16.wrap imm * 64))) (IntKind.u16.wrap (IntKind.u16.wrap n * 8))) (IntKind.u16.wrap d)])) 34 28672 [reg 0 0, reg 1 3, im 6 5 0 31 1] rfl (by decide) (by decide) (by decide +kernel) d n m imm cond hr)
end Go.Proofs.Ytpihjhfaeloapaa
namespace Go.Proofs.Ytpihjhfaeloapaa
open Go.RowKit On Th
set_option maxHeartbeats 4000000 in
set_option maxRecDepth 100000 in
theorem refEnc_35 (d n m imm cond : Int) (w : World) : Calls Try.prog 16 #[.agg #[.int .i64 35, .int .i64 d, .int .i64 n, .int .i64 m, .int .i64 imm, .int .i64 cond]] w (RefEnc ⟨35, d, n, m, imm, cond⟩ w) := by
  go_enter Try.func16, Try.ntmps16
  go_wp2_with (first | (go_at_call 31; refine (one_c _ _).mono ?_; rintro e w' ⟨rfl, rfl⟩))
  go_ret
  refine ⟨_, ⟨_, rfl, Blk.new' _ _ _ _ (by simp only [World.size_alloc]), ((Below.refl _ _).alloc (Nat.le_refl _) _).alloc (by simp) _⟩, fun hr => ?_⟩
  exact of_decide_eq_true (enumB (fun d n m imm cond => decide (encL ⟨35, d, n, m, imm, cond⟩ = [bits .or .u16 (bits .or .u16 38912 (IntKind.u16.wrap (IntKind.u16.wrap d * 256))) (IntKind.u16.wrap (wrap64 (imm.tdiv 4)))])) 35 38912 [reg 0 8, im 0 8 0 1020 4] rfl (by decide) (by decide) (by decide +kernel) d n m imm cond hr)
set_option maxHeartbeats 4000000 in
set_option maxRecDepth 100000 in
theorem refEnc_36 (d n m imm cond : Int) (w : World) : Calls Try.prog 16 #[.agg #[.int .i64 36, .int .i64 d, .int .i64 n, .int .i64 m, .int .i64 imm, .int .i64 cond]] w (RefEnc ⟨36, d, n, m, imm, cond⟩ w) := by
  go_enter Try.func16, Try.ntmps16
  go_wp2_with (first | (go_at_call 31; refine (one_c _ _).mono ?_; rintro e w' ⟨rfl, rfl⟩))
  go_ret
  refine ⟨_, ⟨_, rfl, Blk.new' _ _ _ _ (by simp only [World.size_alloc]), ((Below.refl _ _).alloc (Nat.le_refl _) _).alloc (by simp) _⟩, fun hr => ?_⟩
  exact of_decide_eq_true (enumB (fun d n m imm cond => decide (encL ⟨36, d, n, m, imm, cond⟩ = [bits .or .u16 (bits .or .u16 36864 (IntKind.u16.wrap (IntKind.u16.wrap d * 256))) (IntKind.u16.wrap (wrap64 (imm.tdiv 4)))])) 36 36864 [reg 0 8, im 0 8 0 1020 4] rfl (by decide) (by decide) (by decide +kernel) d n m imm cond hr)
set_option maxHeartbeats 4000000 in
set_option maxRecDepth 100000 in
theorem refEnc_39 (d n m imm cond : Int) (w : World) : Calls Try.prog 16 #[.agg #[.int .i64 39, .int .i64 d, .int .i64 n, .int .i64 m, .int .i64 imm, .int .i64 cond]] w (RefEnc ⟨39, d, n, m, imm, cond⟩ w) := by
  go_enter Try.func16, Try.ntmps16
  go_wp2_with (first | (go_at_call 31; refine (one_c _ _).mono ?_; rintro e w' ⟨rfl, rfl⟩))
  go_ret
  refine ⟨_, ⟨_, rfl, Blk.new' _ _ _ _ (by simp only [World.size_alloc]), ((Below.refl _ _).alloc (Nat.le_refl _) _).alloc (by simp) _⟩, fun hr => ?_⟩
  exact of_decide_eq_true (enumB (fun d n m imm cond => decide (encL ⟨39, d, n, m, imm, cond⟩ = [bits .or .u16 46080 (IntKind.u16.wrap imm)])) 39 46080 [im 0 9 1 511 1] rfl (by decide) (by decide) (by decide +kernel) d n m imm cond hr)
set_option maxHeartbeats 4000000 in
set_option maxRecDepth 100000 in
theorem refEnc_40 (d n m imm cond : Int) (w : World) : Calls Try.prog 16 #[.agg #[.int .i64 40, .int .i64 d, .int .i64 n, .int .i64 m, .int .i64 imm, .int .i64 cond]] w (RefEnc ⟨40, d, n, m, imm, cond⟩ w) := by
  go_enter Try.func16, Try.ntmps16
  go_wp2_with (first | (go_at_call 31; refine (one_c _ _).mono ?_; rintro e w' ⟨rfl, rfl⟩))
  go_ret
  refine ⟨_, ⟨_, rfl, Blk.new' _ _ _ _ (by simp only [World.size_alloc]), ((Below.refl _ _).alloc (Nat.le_refl _) _).alloc (by simp) _⟩, fun hr => ?_⟩
  exact of_decide_eq_true (enumB (fun d n m imm cond => decide (encL ⟨40, d, n, m, imm, cond⟩ = [bits .or .u16 48128 (IntKind.u16.wrap imm)])) 40 48128 [im 0 9 1 511 1] rfl (by decide) (by decide) (by decide +kernel) d n m imm cond hr)
set_option maxHeartbeats 4000000 in
set_option maxRecDepth 100000 in
theorem refEnc_41 (d n m imm cond : Int) (w : World) : Calls Try.prog 16 #[.agg #[.int .i64 41, .int .i64 d, .int .i64 n, .int .i64 m, .int .i64 imm, .int .i64 cond]] w (RefEnc ⟨41, d, n, m, imm, cond⟩ w) := by
  go_enter Try.func16, Try.ntmps16
  go_wp2_with (first | (go_at_call 31; refine (one_c _ _).mono ?_; rintro e w' ⟨rfl, rfl⟩))
  go_ret
  refine ⟨_, ⟨_, rfl, Blk.new' _ _ _ _ (by simp only [World.size_alloc]), ((Below.refl _ _).alloc (Nat.le_refl _) _).alloc (by simp) _⟩, fun hr => ?_⟩
  exact of_decide_eq_true (enumB (fun d n m imm cond => decide (encL ⟨41, d, n, m, imm, cond⟩ = [bits .or .u16 (bits .or .u16 53248 (IntKind.u16.wrap (IntKind.u16.wrap cond * 256))) (bits .and .u16 (IntKind.u16.wrap (wrap64 (imm.tdiv 2))) 255)])) 41 53248 [im 0 8 (-256) 254 2, ⟨4, 8, 4, 0, 13, 1⟩] rfl (by decide) (by decide) (by decide +kernel) d n m imm cond hr)
set_option maxHeartbeats 4000000 in
set_option maxRecDepth 100000 in
theorem refEnc_42 (d n m imm cond : Int) (w : World) : Calls Try.prog 16 #[.agg #[.int .i64 42, .int .i64 d, .int .i64 n, .int .i64 m, .int .i64 imm, .int .i64 cond]] w (RefEnc ⟨42, d, n, m, imm, cond⟩ w) := by
  go_enter Try.func16, Try.ntmps16
  go_wp2_with (first | (go_at_call 31; refine (one_c _ _).mono ?_; rintro e w' ⟨rfl, rfl⟩))
  go_ret
  refine ⟨_, ⟨_, rfl, Blk.new' _ _ _ _ (by simp only [World.size_alloc]), ((Below.refl _ _).alloc (Nat.le_refl _) _).alloc (by simp) _⟩, fun hr => ?_⟩
  exact of_decide_eq_true (enumB (fun d n m imm cond => decide (encL ⟨42, d, n, m, imm, cond⟩ = [bits .or .u16 57344 (bits .and .u16 (IntKind.u16.wrap (wrap64 (imm.tdiv 2))) 2047)])) 42 57344 [im 0 11 (-2048) 2046 2] rfl (by decide) (by decide) (by decide +kernel) d n m imm cond hr)
end Go.Proofs.Ytpihjhfaeloapaa
