/- Contracts of the functions of package word that ir reaches. -/
import Derived.Test.YtilifniflpbbkaaRows
import Derived.Test.YtilifniflpbbkaaWord
import Derived.WalkKit
import Derived.Lib.Hide
import Derived.WalkSpells
import Derived.WalkLawsBesides
namespace Go.Proofs.Ytilifniflpbbkaa
open Go.RowKit
theorem ret_i {k : IntKind} {a b : Int} (h : a = b) : Ending.returned (.int k a) = .returned (.int k b) := by rw [h]
theorem add_c (a b : Int) (w : World) :
    Calls Try.prog 29 #[.int .i32 a, .int .i32 b] w fun e w' => e = .returned (.int .i32 (Wd.add a b)) ∧ w = w' := by
  go_enter Try.func29, Try.ntmps29
  go_wp2
  go_ret
  exact ⟨ret_i (by rw [Wd.wrap32_T, Wd.O_add]; rfl), rfl⟩
theorem sub_c (a b : Int) (w : World) :
    Calls Try.prog 30 #[.int .i32 a, .int .i32 b] w fun e w' => e = .returned (.int .i32 (Wd.sub a b)) ∧ w = w' := by
  go_enter Try.func30, Try.ntmps30
  go_wp2
  go_ret
  exact ⟨ret_i (by rw [Wd.wrap32_T, Wd.O_sub]; rfl), rfl⟩
theorem mul_c (a b : Int) (w : World) :
    Calls Try.prog 31 #[.int .i32 a, .int .i32 b] w fun e w' => e = .returned (.int .i32 (Wd.mul a b)) ∧ w = w' := by
  go_enter Try.func31, Try.ntmps31
  go_wp2
  go_ret
  exact ⟨ret_i (by rw [Wd.wrap32_T, Wd.O_mul]; rfl), rfl⟩
theorem and_c (a b : Int) (w : World) :
    Calls Try.prog 32 #[.int .i32 a, .int .i32 b] w fun e w' => e = .returned (.int .i32 (Wd.and a b)) ∧ w = w' := by
  go_enter Try.func32, Try.ntmps32
  go_wp2
  go_ret
  exact ⟨ret_i (Wd.bits_and a b), rfl⟩
theorem or_c (a b : Int) (w : World) :
    Calls Try.prog 33 #[.int .i32 a, .int .i32 b] w fun e w' => e = .returned (.int .i32 (Wd.or a b)) ∧ w = w' := by
  go_enter Try.func33, Try.ntmps33
  go_wp2
  go_ret
  exact ⟨ret_i (Wd.bits_or a b), rfl⟩
theorem xor_c (a b : Int) (w : World) :
    Calls Try.prog 34 #[.int .i32 a, .int .i32 b] w fun e w' => e = .returned (.int .i32 (Wd.xor a b)) ∧ w = w' := by
  go_enter Try.func34, Try.ntmps34
  go_wp2
  go_ret
  exact ⟨ret_i (Wd.bits_xor a b), rfl⟩
theorem shl_c (a b : Int) (w : World) :
    Calls Try.prog 35 #[.int .i32 a, .int .i32 b] w fun e w' => e = .returned (.int .i32 (Wd.shl a b)) ∧ w = w' := by
  obtain ⟨h1, h2⟩ := Wd.and31_range b
  go_enter Try.func35, Try.ntmps35
  go_wp2
  go_ret
  exact ⟨ret_i (Wd.shl_w a b), rfl⟩
theorem shr_c (a b : Int) (w : World) :
    Calls Try.prog 36 #[.int .i32 a, .int .i32 b] w fun e w' => e = .returned (.int .i32 (Wd.shr a b)) ∧ w = w' := by
  obtain ⟨h1, h2⟩ := Wd.and31_range b
  go_enter Try.func36, Try.ntmps36
  go_wp2
  go_ret
  exact ⟨ret_i (Wd.shr_w a b), rfl⟩
theorem sar_c (a b : Int) (w : World) :
    Calls Try.prog 37 #[.int .i32 a, .int .i32 b] w fun e w' => e = .returned (.int .i32 (Wd.sar a b)) ∧ w = w' := by
  obtain ⟨h1, h2⟩ := Wd.and31_range b
  go_enter Try.func37, Try.ntmps37
  go_wp2
  go_ret
  exact ⟨ret_i (Wd.sar_w a b), rfl⟩
theorem lt_c (a b : Int) (ha : Wd.R a) (hb : Wd.R b) (w : World) :
    Calls Try.prog 39 #[.int .i32 a, .int .i32 b] w fun e w' => e = .returned (.int .i32 (Wd.lt a b)) ∧ w = w' := by
  have H := Lib.hid ha; have H2 := Lib.hid hb; obtain ⟨a1, a2⟩ := ha; obtain ⟨b1, b2⟩ := hb
  go_enter Try.func39, Try.ntmps39
  go_wp2
  go_ret
  exact ⟨ret_i (Wd.lt_w a b H.out H2.out), rfl⟩
theorem below_c (a b : Int) (w : World) :
    Calls Try.prog 40 #[.int .i32 a, .int .i32 b] w fun e w' => e = .returned (.int .i32 (Wd.below a b)) ∧ w = w' := by
  go_enter Try.func40, Try.ntmps40
  go_wp2
  go_ret
  exact ⟨ret_i (Wd.below_T a b), rfl⟩
theorem neg_c (a : Int) (w : World) :
    Calls Try.prog 41 #[.int .i32 a] w fun e w' => e = .returned (.int .i32 (Wd.neg a)) ∧ w = w' := by
  go_enter Try.func41, Try.ntmps41
  go_wp2
  go_ret
  exact ⟨ret_i (by rw [Wd.wrap32_T, Wd.O_neg]; rfl), rfl⟩
theorem not_c (a : Int) (w : World) :
    Calls Try.prog 42 #[.int .i32 a] w fun e w' => e = .returned (.int .i32 (Wd.not a)) ∧ w = w' := by
  go_enter Try.func42, Try.ntmps42
  go_wp2
  go_ret
  exact ⟨ret_i (Wd.not_w a), rfl⟩
theorem some_c (a : Int) (w : World) :
    Calls Try.prog 43 #[.int .i32 a] w fun e w' => e = .returned (.int .i32 (Wd.some' a)) ∧ w = w' := by
  go_enter Try.func43, Try.ntmps43
  go_wp2_with (go_at_call 36; refine (shr_c _ _ _).mono ?_; rintro e w' ⟨rfl, rfl⟩)
  go_ret
  exact ⟨ret_i (Wd.some_w a), rfl⟩
theorem eq_c (a b : Int) (w : World) :
    Calls Try.prog 38 #[.int .i32 a, .int .i32 b] w fun e w' => e = .returned (.int .i32 (Wd.eq a b)) ∧ w = w' := by
  go_enter Try.func38, Try.ntmps38
  go_wp2_with (go_at_call 43; refine (some_c _ _).mono ?_; rintro e w' ⟨rfl, rfl⟩)
  go_ret
  exact ⟨ret_i (Wd.eq_w a b), rfl⟩
theorem pick_c (c a b : Int) (w : World) :
    Calls Try.prog 26 #[.int .i32 c, .int .i32 a, .int .i32 b] w fun e w' => e = .returned (.int .i32 (Wd.pick c a b)) ∧ w = w' := by
  go_enter Try.func26, Try.ntmps26
  go_wp2_with (go_at_call 43; refine (some_c _ _).mono ?_; rintro e w' ⟨rfl, rfl⟩)
  go_ret
  exact ⟨ret_i (Wd.pick_T c a b), rfl⟩
end Go.Proofs.Ytilifniflpbbkaa
