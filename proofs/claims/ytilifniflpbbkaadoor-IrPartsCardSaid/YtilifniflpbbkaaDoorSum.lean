/- ir's sum and one. -/
import Derived.Test.YtilifniflpbbkaaDoorIr
import Derived.Test.YtilifniflpbbkaaDoorWcI
namespace Go.Proofs.YtilifniflpbbkaaDoor
open Go.RowKit
def oneS (op a : Int) : Int := if op = 15 then Wd.neg a else if op = 16 then Wd.not a else Wd.yes (a == 0)
theorem sum_c (op a b : Int) (hop : binS op = true) (ha : Wd.R a) (hb : Wd.R b) (w : World) :
    Calls Tryd.prog 41 #[.int .i64 op, .int .i32 a, .int .i32 b] w fun e w' => e = .returned (.int .i32 (Wd.ask op a b)) ∧ w = w' := by
  have h : op = 6 ∨ op = 7 ∨ op = 8 ∨ op = 9 ∨ op = 10 ∨ op = 11 ∨ op = 12 ∨ op = 13 ∨ op = 14 ∨ op = 19 ∨ op = 20 ∨ op = 21 := by
    have := of_decide_eq_true hop; omega
  rcases h with rfl | rfl | rfl | rfl | rfl | rfl | rfl | rfl | rfl | rfl | rfl | rfl
  · go_enter Tryd.func41, Tryd.ntmps41
    go_wp2_with fail
    refine (add_c a b _).mono ?_
    rintro e w' ⟨rfl, rfl⟩
    go_wp2_with fail
    go_ret
    exact ⟨ret_i (rfl), rfl⟩
  · go_enter Tryd.func41, Tryd.ntmps41
    go_wp2_with fail
    refine (sub_c a b _).mono ?_
    rintro e w' ⟨rfl, rfl⟩
    go_wp2_with fail
    go_ret
    exact ⟨ret_i (rfl), rfl⟩
  · go_enter Tryd.func41, Tryd.ntmps41
    go_wp2_with fail
    refine (mul_c a b _).mono ?_
    rintro e w' ⟨rfl, rfl⟩
    go_wp2_with fail
    go_ret
    exact ⟨ret_i (rfl), rfl⟩
  · go_enter Tryd.func41, Tryd.ntmps41
    go_wp2_with fail
    refine (and_c a b _).mono ?_
    rintro e w' ⟨rfl, rfl⟩
    go_wp2_with fail
    go_ret
    exact ⟨ret_i (rfl), rfl⟩
  · go_enter Tryd.func41, Tryd.ntmps41
    go_wp2_with fail
    refine (or_c a b _).mono ?_
    rintro e w' ⟨rfl, rfl⟩
    go_wp2_with fail
    go_ret
    exact ⟨ret_i (rfl), rfl⟩
  · go_enter Tryd.func41, Tryd.ntmps41
    go_wp2_with fail
    refine (xor_c a b _).mono ?_
    rintro e w' ⟨rfl, rfl⟩
    go_wp2_with fail
    go_ret
    exact ⟨ret_i (rfl), rfl⟩
  · go_enter Tryd.func41, Tryd.ntmps41
    go_wp2_with fail
    refine (shl_c a b _).mono ?_
    rintro e w' ⟨rfl, rfl⟩
    go_wp2_with fail
    go_ret
    exact ⟨ret_i (rfl), rfl⟩
  · go_enter Tryd.func41, Tryd.ntmps41
    go_wp2_with fail
    refine (shr_c a b _).mono ?_
    rintro e w' ⟨rfl, rfl⟩
    go_wp2_with fail
    go_ret
    exact ⟨ret_i (rfl), rfl⟩
  · go_enter Tryd.func41, Tryd.ntmps41
    go_wp2_with fail
    refine (sar_c a b _).mono ?_
    rintro e w' ⟨rfl, rfl⟩
    go_wp2_with fail
    go_ret
    exact ⟨ret_i (rfl), rfl⟩
  · go_enter Tryd.func41, Tryd.ntmps41
    go_wp2_with fail
    refine (eq_c a b _).mono ?_
    rintro e w' ⟨rfl, rfl⟩
    go_wp2_with fail
    go_ret
    exact ⟨ret_i (Wd.eq_yes ha hb), rfl⟩
  · go_enter Tryd.func41, Tryd.ntmps41
    go_wp2_with fail
    refine (lt_c a b ha hb _).mono ?_
    rintro e w' ⟨rfl, rfl⟩
    go_wp2_with fail
    go_ret
    exact ⟨ret_i (rfl), rfl⟩
  · go_enter Tryd.func41, Tryd.ntmps41
    go_wp2_with fail
    refine (below_c a b _).mono ?_
    rintro e w' ⟨rfl, rfl⟩
    go_wp2_with fail
    go_ret
    exact ⟨ret_i (rfl), rfl⟩
theorem one_c (op a : Int) (hop : unS op = true) (ha : Wd.R a) (w : World) :
    Calls Tryd.prog 42 #[.int .i64 op, .int .i32 a] w fun e w' => e = .returned (.int .i32 (oneS op a)) ∧ w = w' := by
  have h : op = 15 ∨ op = 16 ∨ op = 26 := of_decide_eq_true hop
  rcases h with rfl | rfl | rfl
  · go_enter Tryd.func42, Tryd.ntmps42
    go_wp2_with fail
    refine (neg_c a _).mono ?_
    rintro e w' ⟨rfl, rfl⟩
    go_wp2_with fail
    go_ret
    exact ⟨ret_i (rfl), rfl⟩
  · go_enter Tryd.func42, Tryd.ntmps42
    go_wp2_with fail
    refine (not_c a _).mono ?_
    rintro e w' ⟨rfl, rfl⟩
    go_wp2_with fail
    go_ret
    exact ⟨ret_i (rfl), rfl⟩
  · go_enter Tryd.func42, Tryd.ntmps42
    go_wp2_with fail
    refine (eq_c a 0 _).mono ?_
    rintro e w' ⟨rfl, rfl⟩
    go_wp2_with fail
    go_ret
    exact ⟨ret_i (Wd.eq_yes ha (by unfold Wd.R; omega)), rfl⟩
end Go.Proofs.YtilifniflpbbkaaDoor
