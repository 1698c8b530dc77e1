/- The walks of the laws of chapter 2 on numbers. -/
import Derived.Test.YtelkohkacdocpaaWKnown
namespace Go.Proofs.Ytelkohkacdocpaa
open Go.RowKit
set_option maxHeartbeats 1000000
theorem wordOne_walk (a b c n : Int) (ha : Wd.R a) (hb : Wd.R b) (hc : Wd.R c) (w : World) :
    Calls Try.prog 3 #[.int .i32 a, .int .i32 b, .int .i32 c, .int .i64 n] w fun e w' => e = .returned (.bool true) ∧ w = w' := by
  have HA := Lib.hid ha; clear ha
  have HB := Lib.hid hb; clear hb
  have HC := Lib.hid hc; clear hc
  go_enter Try.func3, Try.ntmps3
  go_wp2_with (go_at_call 10; (with_reducible refine (two_c _ _ HC.out _).mono ?_); rintro e w' ⟨x, hx, rfl, rfl⟩; have HX := Lib.hid hx; clear hx; have h1 : (Wd.pick x a b == Wd.choose x a b) = true := by (rw [Wd.pick_choose HX.out HA.out HB.out]; exact beq_self_eq_true _))
  go_wp2_with (first
    | (go_at_call 24; (with_reducible refine (add_c _ _ _).mono ?_); rintro e w' ⟨rfl, rfl⟩)
    | (go_at_call 31; (with_reducible refine (sub_c _ _ _).mono ?_); rintro e w' ⟨rfl, rfl⟩)
    | (go_at_call 32; (with_reducible refine (mul_c _ _ _).mono ?_); rintro e w' ⟨rfl, rfl⟩)
    | (go_at_call 19; (with_reducible refine (and_c _ _ _).mono ?_); rintro e w' ⟨rfl, rfl⟩)
    | (go_at_call 18; (with_reducible refine (or_c _ _ _).mono ?_); rintro e w' ⟨rfl, rfl⟩)
    | (go_at_call 33; (with_reducible refine (xor_c _ _ _).mono ?_); rintro e w' ⟨rfl, rfl⟩)
    | (go_at_call 21; (with_reducible refine (shl_c _ _ _).mono ?_); rintro e w' ⟨rfl, rfl⟩)
    | (go_at_call 22; (with_reducible refine (shr_c _ _ _).mono ?_); rintro e w' ⟨rfl, rfl⟩)
    | (go_at_call 23; (with_reducible refine (sar_c _ _ _).mono ?_); rintro e w' ⟨rfl, rfl⟩)
    | (go_at_call 17; (with_reducible refine (eq_c _ _ _).mono ?_); rintro e w' ⟨rfl, rfl⟩)
    | (go_at_call 34; (with_reducible refine (below_c _ _ _).mono ?_); rintro e w' ⟨rfl, rfl⟩)
    | (go_at_call 12; (with_reducible refine (neg_c _ _).mono ?_); rintro e w' ⟨rfl, rfl⟩)
    | (go_at_call 14; (with_reducible refine (not_c _ _).mono ?_); rintro e w' ⟨rfl, rfl⟩)
    | (go_at_call 15; (with_reducible refine (pick_c _ _ _ _).mono ?_); rintro e w' ⟨rfl, rfl⟩)
    | (go_at_call 11; (with_reducible refine (known_c _).mono ?_); rintro e w' ⟨rfl, rfl⟩)
    | (go_at_call 16; (with_reducible refine (rpick_c _ _ _ _).mono ?_); rintro e w' ⟨rfl, rfl⟩)
    | (go_at_call 13; (with_reducible refine (one15_c _ _).mono ?_); rintro e w' ⟨rfl, rfl⟩)
    | (go_at_call 13; (with_reducible refine (one16_c _ _).mono ?_); rintro e w' ⟨rfl, rfl⟩))
  go_ret
  exact ⟨rfl, rfl⟩
set_option maxRecDepth 100000 in
theorem wordTwo_walk (a b n k : Int) (ha : Wd.R a) (hb : Wd.R b) (w : World) :
    Calls Try.prog 7 #[.int .i32 a, .int .i32 b, .int .i64 n, .int .i64 k] w fun e w' => e = .returned (.bool true) ∧ w = w' := by
  have HA := Lib.hid ha; clear ha
  have HB := Lib.hid hb; clear hb
  go_enter Try.func7, Try.ntmps7
  go_wp2_with fail
  refine (two_c _ _ HA.out _).mono ?_; rintro e w' ⟨x, hx, rfl, rfl⟩; have HX := Lib.hid hx; clear hx
  go_wp2_with fail
  refine (two_c _ _ HB.out _).mono ?_; rintro e w' ⟨y, hy, rfl, rfl⟩; have HY := Lib.hid hy; clear hy
  have h6 : (Wd.add x y == Wd.ask 6 x y) = true := by (exact beq_self_eq_true _)
  have h7 : (Wd.sub x y == Wd.ask 7 x y) = true := by (exact beq_self_eq_true _)
  have h8 : (Wd.mul x y == Wd.ask 8 x y) = true := by (exact beq_self_eq_true _)
  have h9 : (Wd.and x y == Wd.ask 9 x y) = true := by (exact beq_self_eq_true _)
  have h10 : (Wd.or x y == Wd.ask 10 x y) = true := by (exact beq_self_eq_true _)
  have h11 : (Wd.xor x y == Wd.ask 11 x y) = true := by (exact beq_self_eq_true _)
  have h12 : (Wd.shl x y == Wd.ask 12 x y) = true := by (exact beq_self_eq_true _)
  have h13 : (Wd.shr x y == Wd.ask 13 x y) = true := by (exact beq_self_eq_true _)
  have h14 : (Wd.sar x y == Wd.ask 14 x y) = true := by (exact beq_self_eq_true _)
  have h19 : (Wd.eq x y == Wd.ask 19 x y) = true := by (rw [Wd.eq_yes HX.out HY.out]; exact beq_self_eq_true _)
  have h20 : (Wd.lt x y == Wd.ask 20 x y) = true := by (exact beq_self_eq_true _)
  have h21 : (Wd.below x y == Wd.ask 21 x y) = true := by (exact beq_self_eq_true _)
  have h17 : (Wd.quo x y == Wd.ask 17 x y) = true := by (exact beq_self_eq_true _)
  have h18 : (Wd.rem x y == Wd.ask 18 x y) = true := by (exact beq_self_eq_true _)
  go_wp2_with (first
    | (go_at_call 24; (with_reducible refine (add_c _ _ _).mono ?_); rintro e w' ⟨rfl, rfl⟩)
    | (go_at_call 31; (with_reducible refine (sub_c _ _ _).mono ?_); rintro e w' ⟨rfl, rfl⟩)
    | (go_at_call 32; (with_reducible refine (mul_c _ _ _).mono ?_); rintro e w' ⟨rfl, rfl⟩)
    | (go_at_call 19; (with_reducible refine (and_c _ _ _).mono ?_); rintro e w' ⟨rfl, rfl⟩)
    | (go_at_call 18; (with_reducible refine (or_c _ _ _).mono ?_); rintro e w' ⟨rfl, rfl⟩)
    | (go_at_call 33; (with_reducible refine (xor_c _ _ _).mono ?_); rintro e w' ⟨rfl, rfl⟩)
    | (go_at_call 21; (with_reducible refine (shl_c _ _ _).mono ?_); rintro e w' ⟨rfl, rfl⟩)
    | (go_at_call 22; (with_reducible refine (shr_c _ _ _).mono ?_); rintro e w' ⟨rfl, rfl⟩)
    | (go_at_call 23; (with_reducible refine (sar_c _ _ _).mono ?_); rintro e w' ⟨rfl, rfl⟩)
    | (go_at_call 17; (with_reducible refine (eq_c _ _ _).mono ?_); rintro e w' ⟨rfl, rfl⟩)
    | (go_at_call 34; (with_reducible refine (below_c _ _ _).mono ?_); rintro e w' ⟨rfl, rfl⟩)
    | (go_at_call 12; (with_reducible refine (neg_c _ _).mono ?_); rintro e w' ⟨rfl, rfl⟩)
    | (go_at_call 14; (with_reducible refine (not_c _ _).mono ?_); rintro e w' ⟨rfl, rfl⟩)
    | (go_at_call 15; (with_reducible refine (pick_c _ _ _ _).mono ?_); rintro e w' ⟨rfl, rfl⟩)
    | (go_at_call 11; (with_reducible refine (known_c _).mono ?_); rintro e w' ⟨rfl, rfl⟩)
    | (go_at_call 16; (with_reducible refine (rpick_c _ _ _ _).mono ?_); rintro e w' ⟨rfl, rfl⟩)
    | (go_at_call 25; (with_reducible refine (lt_c _ _ HX.out HY.out _).mono ?_); rintro e w' ⟨rfl, rfl⟩)
    | (go_at_call 28; (with_reducible refine (div_c _ _ HX.out HY.out _).mono ?_); rintro e w' ⟨rfl, rfl⟩)
    | (go_at_call 29; (with_reducible refine (rem_c _ _ HX.out HY.out _).mono ?_); rintro e w' ⟨rfl, rfl⟩)
    | (go_at_call 30; (with_reducible refine (do6_c _ _ HX.out HY.out _).mono ?_); rintro e w' ⟨rfl, rfl⟩)
    | (go_at_call 30; (with_reducible refine (do7_c _ _ HX.out HY.out _).mono ?_); rintro e w' ⟨rfl, rfl⟩)
    | (go_at_call 30; (with_reducible refine (do8_c _ _ HX.out HY.out _).mono ?_); rintro e w' ⟨rfl, rfl⟩)
    | (go_at_call 30; (with_reducible refine (do9_c _ _ HX.out HY.out _).mono ?_); rintro e w' ⟨rfl, rfl⟩)
    | (go_at_call 30; (with_reducible refine (do10_c _ _ HX.out HY.out _).mono ?_); rintro e w' ⟨rfl, rfl⟩)
    | (go_at_call 30; (with_reducible refine (do11_c _ _ HX.out HY.out _).mono ?_); rintro e w' ⟨rfl, rfl⟩)
    | (go_at_call 30; (with_reducible refine (do12_c _ _ HX.out HY.out _).mono ?_); rintro e w' ⟨rfl, rfl⟩)
    | (go_at_call 30; (with_reducible refine (do13_c _ _ HX.out HY.out _).mono ?_); rintro e w' ⟨rfl, rfl⟩)
    | (go_at_call 30; (with_reducible refine (do14_c _ _ HX.out HY.out _).mono ?_); rintro e w' ⟨rfl, rfl⟩)
    | (go_at_call 30; (with_reducible refine (do19_c _ _ HX.out HY.out _).mono ?_); rintro e w' ⟨rfl, rfl⟩)
    | (go_at_call 30; (with_reducible refine (do20_c _ _ HX.out HY.out _).mono ?_); rintro e w' ⟨rfl, rfl⟩)
    | (go_at_call 30; (with_reducible refine (do21_c _ _ HX.out HY.out _).mono ?_); rintro e w' ⟨rfl, rfl⟩)
    | (go_at_call 30; (with_reducible refine (do17_c _ _ HX.out HY.out _).mono ?_); rintro e w' ⟨rfl, rfl⟩)
    | (go_at_call 30; (with_reducible refine (do18_c _ _ HX.out HY.out _).mono ?_); rintro e w' ⟨rfl, rfl⟩))
  go_ret
  exact ⟨rfl, rfl⟩
end Go.Proofs.Ytelkohkacdocpaa
