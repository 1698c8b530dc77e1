/- The document's One, Pick. -/
import Derived.Test.YtilifniflpbbkaaDoorRefDo
import Derived.Test.YtilifniflpbbkaaDoorSum
namespace Go.Proofs.YtilifniflpbbkaaDoor
open Go.RowKit
theorem one15_c (a : Int) (w : World) :
    Calls Tryd.prog 36 #[.int .i64 15, .int .i32 a] w fun e w' => e = .returned (.int .i32 (Wd.neg a)) ∧ w = w' := by
  go_enter Tryd.func36, Tryd.ntmps36
  go_wp2
  go_ret
  exact ⟨ret_i (by rw [Wd.wrap32_T, Wd.O_neg]; rfl), rfl⟩
theorem one16_c (a : Int) (w : World) :
    Calls Tryd.prog 36 #[.int .i64 16, .int .i32 a] w fun e w' => e = .returned (.int .i32 (Wd.not a)) ∧ w = w' := by
  go_enter Tryd.func36, Tryd.ntmps36
  go_wp2
  go_ret
  exact ⟨ret_i (Wd.not_w a), rfl⟩
theorem rpick_c (c a b : Int) (w : World) :
    Calls Tryd.prog 37 #[.int .i32 c, .int .i32 a, .int .i32 b] w fun e w' => e = .returned (.int .i32 (Wd.choose c a b)) ∧ w = w' := by
  by_cases h : c = 0
  · subst h
    go_enter Tryd.func37, Tryd.ntmps37
    go_wp2
    go_ret
    exact ⟨rfl, rfl⟩
  · have h1 : (c != 0) = true := by simpa using h
    have H : Hid (Wd.choose c a b = a) := if_neg h
    rw [H.out]
    go_enter Tryd.func37, Tryd.ntmps37
    go_wp2
    go_ret
    exact ⟨rfl, rfl⟩
theorem one26_c (a : Int) (w : World) :
    Calls Tryd.prog 36 #[.int .i64 26, .int .i32 a] w fun e w' => e = .returned (.int .i32 (Wd.yes (a == 0))) ∧ w = w' := by
  go_enter Tryd.func36, Tryd.ntmps36
  go_wp2_with (go_at_call 44; refine (yes_c _ _).mono ?_; rintro e w' ⟨rfl, rfl⟩)
  go_ret
  exact ⟨ret_i (rfl), rfl⟩
theorem refOne_c (op a : Int) (hop : unS op = true) (w : World) :
    Calls Tryd.prog 36 #[.int .i64 op, .int .i32 a] w fun e w' => e = .returned (.int .i32 (oneS op a)) ∧ w = w' := by
  have h : op = 15 ∨ op = 16 ∨ op = 26 := of_decide_eq_true hop
  rcases h with rfl | rfl | rfl
  · exact one15_c a w
  · exact one16_c a w
  · exact one26_c a w
end Go.Proofs.YtilifniflpbbkaaDoor
