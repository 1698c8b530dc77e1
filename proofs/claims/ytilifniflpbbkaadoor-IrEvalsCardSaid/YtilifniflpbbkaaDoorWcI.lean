/- Contracts of the functions of package word that ir reaches. -/
import Derived.Test.YtilifniflpbbkaaDoorRows
import Derived.Test.YtilifniflpbbkaaDoorWord
import Derived.WalkKit
import Derived.Lib.Hide
import Derived.WalkSpells
import Derived.WalkLawsBesides
namespace Go.Proofs.YtilifniflpbbkaaDoor
open Go.RowKit
theorem ret_i {k : IntKind} {a b : Int} (h : a = b) : Ending.returned (.int k a) = .returned (.int k b) := by rw [h]
theorem add_c (a b : Int) (w : World) :
    Calls Tryd.prog 48 #[.int .i32 a, .int .i32 b] w fun e w' => e = .returned (.int .i32 (Wd.add a b)) ∧ w = w' := by
  go_enter Tryd.func48, Tryd.ntmps48
  go_wp2
  go_ret
  exact ⟨ret_i (by rw [Wd.wrap32_T, Wd.O_add]; rfl), rfl⟩
theorem sub_c (a b : Int) (w : World) :
    Calls Tryd.prog 49 #[.int .i32 a, .int .i32 b] w fun e w' => e = .returned (.int .i32 (Wd.sub a b)) ∧ w = w' := by
  go_enter Tryd.func49, Tryd.ntmps49
  go_wp2
  go_ret
  exact ⟨ret_i (by rw [Wd.wrap32_T, Wd.O_sub]; rfl), rfl⟩
theorem mul_c (a b : Int) (w : World) :
    Calls Tryd.prog 50 #[.int .i32 a, .int .i32 b] w fun e w' => e = .returned (.int .i32 (Wd.mul a b)) ∧ w = w' := by
  go_enter Tryd.func50, Tryd.ntmps50
  go_wp2
  go_ret
  exact ⟨ret_i (by rw [Wd.wrap32_T, Wd.O_mul]; rfl), rfl⟩
theorem and_c (a b : Int) (w : World) :
    Calls Tryd.prog 51 #[.int .i32 a, .int .i32 b] w fun e w' => e = .returned (.int .i32 (Wd.and a b)) ∧ w = w' := by
  go_enter Tryd.func51, Tryd.ntmps51
  go_wp2
  go_ret
  exact ⟨ret_i (Wd.bits_and a b), rfl⟩
theorem or_c (a b : Int) (w : World) :
    Calls Tryd.prog 52 #[.int .i32 a, .int .i32 b] w fun e w' => e = .returned (.int .i32 (Wd.or a b)) ∧ w = w' := by
  go_enter Tryd.func52, Tryd.ntmps52
  go_wp2
  go_ret
  exact ⟨ret_i (Wd.bits_or a b), rfl⟩
theorem xor_c (a b : Int) (w : World) :
    Calls Tryd.prog 53 #[.int .i32 a, .int .i32 b] w fun e w' => e = .returned (.int .i32 (Wd.xor a b)) ∧ w = w' := by
  go_enter Tryd.func53, Tryd.ntmps53
  go_wp2
  go_ret
  exact ⟨ret_i (Wd.bits_xor a b), rfl⟩
theorem shl_c (a b : Int) (w : World) :
    Calls Tryd.prog 54 #[.int .i32 a, .int .i32 b] w fun e w' => e = .returned (.int .i32 (Wd.shl a b)) ∧ w = w' := by
  obtain ⟨h1, h2⟩ := Wd.and31_range b
  go_enter Tryd.func54, Tryd.ntmps54
  go_wp2
  go_ret
  exact ⟨ret_i (Wd.shl_w a b), rfl⟩
theorem shr_c (a b : Int) (w : World) :
    Calls Tryd.prog 55 #[.int .i32 a, .int .i32 b] w fun e w' => e = .returned (.int .i32 (Wd.shr a b)) ∧ w = w' := by
  obtain ⟨h1, h2⟩ := Wd.and31_range b
  go_enter Tryd.func55, Tryd.ntmps55
  go_wp2
  go_ret
  exact ⟨ret_i (Wd.shr_w a b), rfl⟩
theorem sar_c (a b : Int) (w : World) :
    Calls Tryd.prog 56 #[.int .i32 a, .int .i32 b] w fun e w' => e = .returned (.int .i32 (Wd.sar a b)) ∧ w = w' := by
  obtain ⟨h1, h2⟩ := Wd.and31_range b
  go_enter Tryd.func56, Tryd.ntmps56
  go_wp2
  go_ret
  exact ⟨ret_i (Wd.sar_w a b), rfl⟩
theorem lt_c (a b : Int) (ha : Wd.R a) (hb : Wd.R b) (w : World) :
    Calls Tryd.prog 58 #[.int .i32 a, .int .i32 b] w fun e w' => e = .returned (.int .i32 (Wd.lt a b)) ∧ w = w' := by
  have H := Lib.hid ha; have H2 := Lib.hid hb; obtain ⟨a1, a2⟩ := ha; obtain ⟨b1, b2⟩ := hb
  go_enter Tryd.func58, Tryd.ntmps58
  go_wp2
  go_ret
  exact ⟨ret_i (Wd.lt_w a b H.out H2.out), rfl⟩
theorem below_c (a b : Int) (w : World) :
    Calls Tryd.prog 59 #[.int .i32 a, .int .i32 b] w fun e w' => e = .returned (.int .i32 (Wd.below a b)) ∧ w = w' := by
  go_enter Tryd.func59, Tryd.ntmps59
  go_wp2
  go_ret
  exact ⟨ret_i (Wd.below_T a b), rfl⟩
theorem neg_c (a : Int) (w : World) :
    Calls Tryd.prog 60 #[.int .i32 a] w fun e w' => e = .returned (.int .i32 (Wd.neg a)) ∧ w = w' := by
  go_enter Tryd.func60, Tryd.ntmps60
  go_wp2
  go_ret
  exact ⟨ret_i (by rw [Wd.wrap32_T, Wd.O_neg]; rfl), rfl⟩
theorem not_c (a : Int) (w : World) :
    Calls Tryd.prog 61 #[.int .i32 a] w fun e w' => e = .returned (.int .i32 (Wd.not a)) ∧ w = w' := by
  go_enter Tryd.func61, Tryd.ntmps61
  go_wp2
  go_ret
  exact ⟨ret_i (Wd.not_w a), rfl⟩
theorem some_c (a : Int) (w : World) :
    Calls Tryd.prog 62 #[.int .i32 a] w fun e w' => e = .returned (.int .i32 (Wd.some' a)) ∧ w = w' := by
  go_enter Tryd.func62, Tryd.ntmps62
  go_wp2_with (go_at_call 55; refine (shr_c _ _ _).mono ?_; rintro e w' ⟨rfl, rfl⟩)
  go_ret
  exact ⟨ret_i (Wd.some_w a), rfl⟩
theorem eq_c (a b : Int) (w : World) :
    Calls Tryd.prog 57 #[.int .i32 a, .int .i32 b] w fun e w' => e = .returned (.int .i32 (Wd.eq a b)) ∧ w = w' := by
  go_enter Tryd.func57, Tryd.ntmps57
  go_wp2_with (go_at_call 62; refine (some_c _ _).mono ?_; rintro e w' ⟨rfl, rfl⟩)
  go_ret
  exact ⟨ret_i (Wd.eq_w a b), rfl⟩
theorem pick_c (c a b : Int) (w : World) :
    Calls Tryd.prog 43 #[.int .i32 c, .int .i32 a, .int .i32 b] w fun e w' => e = .returned (.int .i32 (Wd.pick c a b)) ∧ w = w' := by
  go_enter Tryd.func43, Tryd.ntmps43
  go_wp2_with (go_at_call 62; refine (some_c _ _).mono ?_; rintro e w' ⟨rfl, rfl⟩)
  go_ret
  exact ⟨ret_i (Wd.pick_T c a b), rfl⟩
end Go.Proofs.YtilifniflpbbkaaDoor
