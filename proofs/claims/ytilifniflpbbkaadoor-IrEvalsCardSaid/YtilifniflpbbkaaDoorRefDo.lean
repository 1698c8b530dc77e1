/- The document's Do, of the signs of a Bin. -/
import Derived.Test.YtilifniflpbbkaaDoorIr
import Derived.Test.YtilifniflpbbkaaDoorWcI
import Derived.IntWalk
namespace Go.Proofs.YtilifniflpbbkaaDoor
open Go.RowKit
theorem yes_c (b : Bool) (w : World) :
    Calls Tryd.prog 44 #[.bool b] w fun e w' => e = .returned (.int .i32 (Wd.yes b)) ∧ w = w' := by
  cases b <;> (go_enter Tryd.func44, Tryd.ntmps44; go_wp2; go_ret; exact ⟨rfl, rfl⟩)
theorem do6_c (a b : Int) (ha : Wd.R a) (hb : Wd.R b) (w : World) :
    Calls Tryd.prog 35 #[.int .i64 6, .int .i32 a, .int .i32 b] w fun e w' => e = .returned (.int .i32 (Wd.ask 6 a b)) ∧ w = w' := by
  obtain ⟨a1, a2⟩ := ha; obtain ⟨b1, b2⟩ := hb
  go_enter Tryd.func35, Tryd.ntmps35
  go_wp2
  go_ret
  exact ⟨ret_i (by rw [Wd.wrap32_T, Wd.O_add]; rfl), rfl⟩
theorem do7_c (a b : Int) (ha : Wd.R a) (hb : Wd.R b) (w : World) :
    Calls Tryd.prog 35 #[.int .i64 7, .int .i32 a, .int .i32 b] w fun e w' => e = .returned (.int .i32 (Wd.ask 7 a b)) ∧ w = w' := by
  obtain ⟨a1, a2⟩ := ha; obtain ⟨b1, b2⟩ := hb
  go_enter Tryd.func35, Tryd.ntmps35
  go_wp2
  go_ret
  exact ⟨ret_i (by rw [Wd.wrap32_T, Wd.O_sub]; rfl), rfl⟩
theorem do8_c (a b : Int) (ha : Wd.R a) (hb : Wd.R b) (w : World) :
    Calls Tryd.prog 35 #[.int .i64 8, .int .i32 a, .int .i32 b] w fun e w' => e = .returned (.int .i32 (Wd.ask 8 a b)) ∧ w = w' := by
  obtain ⟨a1, a2⟩ := ha; obtain ⟨b1, b2⟩ := hb
  go_enter Tryd.func35, Tryd.ntmps35
  go_wp2
  go_ret
  exact ⟨ret_i (by rw [Wd.wrap32_T, Wd.O_mul]; rfl), rfl⟩
theorem do9_c (a b : Int) (ha : Wd.R a) (hb : Wd.R b) (w : World) :
    Calls Tryd.prog 35 #[.int .i64 9, .int .i32 a, .int .i32 b] w fun e w' => e = .returned (.int .i32 (Wd.ask 9 a b)) ∧ w = w' := by
  obtain ⟨a1, a2⟩ := ha; obtain ⟨b1, b2⟩ := hb
  go_enter Tryd.func35, Tryd.ntmps35
  go_wp2
  go_ret
  exact ⟨ret_i (Wd.bits_and a b), rfl⟩
theorem do10_c (a b : Int) (ha : Wd.R a) (hb : Wd.R b) (w : World) :
    Calls Tryd.prog 35 #[.int .i64 10, .int .i32 a, .int .i32 b] w fun e w' => e = .returned (.int .i32 (Wd.ask 10 a b)) ∧ w = w' := by
  obtain ⟨a1, a2⟩ := ha; obtain ⟨b1, b2⟩ := hb
  go_enter Tryd.func35, Tryd.ntmps35
  go_wp2
  go_ret
  exact ⟨ret_i (Wd.bits_or a b), rfl⟩
theorem do11_c (a b : Int) (ha : Wd.R a) (hb : Wd.R b) (w : World) :
    Calls Tryd.prog 35 #[.int .i64 11, .int .i32 a, .int .i32 b] w fun e w' => e = .returned (.int .i32 (Wd.ask 11 a b)) ∧ w = w' := by
  obtain ⟨a1, a2⟩ := ha; obtain ⟨b1, b2⟩ := hb
  go_enter Tryd.func35, Tryd.ntmps35
  go_wp2
  go_ret
  exact ⟨ret_i (Wd.bits_xor a b), rfl⟩
theorem do12_c (a b : Int) (ha : Wd.R a) (hb : Wd.R b) (w : World) :
    Calls Tryd.prog 35 #[.int .i64 12, .int .i32 a, .int .i32 b] w fun e w' => e = .returned (.int .i32 (Wd.ask 12 a b)) ∧ w = w' := by
  obtain ⟨a1, a2⟩ := ha; obtain ⟨b1, b2⟩ := hb
  obtain ⟨h1, h2⟩ := Wd.and31_range b
  go_enter Tryd.func35, Tryd.ntmps35
  go_wp2
  go_ret
  exact ⟨ret_i (Wd.shl_w a b), rfl⟩
theorem do13_c (a b : Int) (ha : Wd.R a) (hb : Wd.R b) (w : World) :
    Calls Tryd.prog 35 #[.int .i64 13, .int .i32 a, .int .i32 b] w fun e w' => e = .returned (.int .i32 (Wd.ask 13 a b)) ∧ w = w' := by
  obtain ⟨a1, a2⟩ := ha; obtain ⟨b1, b2⟩ := hb
  obtain ⟨h1, h2⟩ := Wd.and31_range b
  go_enter Tryd.func35, Tryd.ntmps35
  go_wp2
  go_ret
  exact ⟨ret_i (Wd.shr_w a b), rfl⟩
theorem do14_c (a b : Int) (ha : Wd.R a) (hb : Wd.R b) (w : World) :
    Calls Tryd.prog 35 #[.int .i64 14, .int .i32 a, .int .i32 b] w fun e w' => e = .returned (.int .i32 (Wd.ask 14 a b)) ∧ w = w' := by
  obtain ⟨a1, a2⟩ := ha; obtain ⟨b1, b2⟩ := hb
  obtain ⟨h1, h2⟩ := Wd.and31_range b
  go_enter Tryd.func35, Tryd.ntmps35
  go_wp2
  go_ret
  exact ⟨ret_i (Wd.sar_w a b), rfl⟩
theorem do19_c (a b : Int) (ha : Wd.R a) (hb : Wd.R b) (w : World) :
    Calls Tryd.prog 35 #[.int .i64 19, .int .i32 a, .int .i32 b] w fun e w' => e = .returned (.int .i32 (Wd.ask 19 a b)) ∧ w = w' := by
  obtain ⟨a1, a2⟩ := ha; obtain ⟨b1, b2⟩ := hb
  go_enter Tryd.func35, Tryd.ntmps35
  go_wp2_with (go_at_call 44; refine (yes_c _ _).mono ?_; rintro e w' ⟨rfl, rfl⟩)
  go_ret
  exact ⟨ret_i (rfl), rfl⟩
theorem do20_c (a b : Int) (ha : Wd.R a) (hb : Wd.R b) (w : World) :
    Calls Tryd.prog 35 #[.int .i64 20, .int .i32 a, .int .i32 b] w fun e w' => e = .returned (.int .i32 (Wd.ask 20 a b)) ∧ w = w' := by
  obtain ⟨a1, a2⟩ := ha; obtain ⟨b1, b2⟩ := hb
  go_enter Tryd.func35, Tryd.ntmps35
  go_wp2_with (go_at_call 44; refine (yes_c _ _).mono ?_; rintro e w' ⟨rfl, rfl⟩)
  go_ret
  exact ⟨ret_i (rfl), rfl⟩
theorem do21_c (a b : Int) (ha : Wd.R a) (hb : Wd.R b) (w : World) :
    Calls Tryd.prog 35 #[.int .i64 21, .int .i32 a, .int .i32 b] w fun e w' => e = .returned (.int .i32 (Wd.ask 21 a b)) ∧ w = w' := by
  obtain ⟨a1, a2⟩ := ha; obtain ⟨b1, b2⟩ := hb
  go_enter Tryd.func35, Tryd.ntmps35
  go_wp2_with (go_at_call 44; refine (yes_c _ _).mono ?_; rintro e w' ⟨rfl, rfl⟩)
  go_ret
  exact ⟨ret_i (rfl), rfl⟩
theorem refDo_c (op a b : Int) (hop : binS op = true) (ha : Wd.R a) (hb : Wd.R b) (w : World) :
    Calls Tryd.prog 35 #[.int .i64 op, .int .i32 a, .int .i32 b] w fun e w' => e = .returned (.int .i32 (Wd.ask op a b)) ∧ w = w' := by
  have h : op = 6 ∨ op = 7 ∨ op = 8 ∨ op = 9 ∨ op = 10 ∨ op = 11 ∨ op = 12 ∨ op = 13 ∨ op = 14 ∨ op = 19 ∨ op = 20 ∨ op = 21 := by
    have := of_decide_eq_true hop; omega
  rcases h with rfl | rfl | rfl | rfl | rfl | rfl | rfl | rfl | rfl | rfl | rfl | rfl
  · exact do6_c a b ha hb w
  · exact do7_c a b ha hb w
  · exact do8_c a b ha hb w
  · exact do9_c a b ha hb w
  · exact do10_c a b ha hb w
  · exact do11_c a b ha hb w
  · exact do12_c a b ha hb w
  · exact do13_c a b ha hb w
  · exact do14_c a b ha hb w
  · exact do19_c a b ha hb w
  · exact do20_c a b ha hb w
  · exact do21_c a b ha hb w
end Go.Proofs.YtilifniflpbbkaaDoor
