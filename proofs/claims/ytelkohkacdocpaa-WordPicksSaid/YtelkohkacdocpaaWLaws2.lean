/- The walks of the laws of chapter 2 on numbers. -/
import Derived.Test.YtelkohkacdocpaaWKnown
namespace Go.Proofs.Ytelkohkacdocpaa
open Go.RowKit
set_option maxHeartbeats 1000000
theorem beq_t {a b : Int} (h : a = b) : (a == b) = true := by rw [h]; exact beq_self_eq_true _
set_option maxHeartbeats 2000000 in
set_option maxRecDepth 100000 in
theorem wordLaws_walk0 (a b c : Int) (ha : Wd.R a) (hb : Wd.R b) (hz : b = 0) (w : World) :
    Calls Try.prog 8 #[.int .i32 a, .int .i32 b, .int .i32 c] w fun e w' => e = .returned (.bool true) ∧ w = w' := by
  have h1 := beq_t (Wd.l_add_comm a b)
  have h2 := beq_t (Wd.l_sub_add a b ha)
  have h3 := beq_t (Wd.l_mul_add a b c)
  have h4 := beq_t (Wd.l_neg a)
  have h5 := beq_t (Wd.l_xor a b ha)
  have h6 := beq_t (Wd.l_lt a b ha hb)
  have h7 := beq_t (Wd.l_below a b ha hb)
  have h8 := beq_t (Wd.l_or a b ha)
  have HA := Lib.hid ha
  have HB := Lib.hid hb; clear hb
  have h9 : (b != 0) = false := by simpa using hz
  clear ha hz
  go_enter Try.func8, Try.ntmps8
  go_wp2_with (first
  | (go_at_call 24; (with_reducible refine (add_c _ _ _).mono ?_); rintro e w' ⟨rfl, rfl⟩)
  | (go_at_call 31; (with_reducible refine (sub_c _ _ _).mono ?_); rintro e w' ⟨rfl, rfl⟩)
  | (go_at_call 32; (with_reducible refine (mul_c _ _ _).mono ?_); rintro e w' ⟨rfl, rfl⟩)
  | (go_at_call 19; (with_reducible refine (and_c _ _ _).mono ?_); rintro e w' ⟨rfl, rfl⟩)
  | (go_at_call 18; (with_reducible refine (or_c _ _ _).mono ?_); rintro e w' ⟨rfl, rfl⟩)
  | (go_at_call 33; (with_reducible refine (xor_c _ _ _).mono ?_); rintro e w' ⟨rfl, rfl⟩)
  | (go_at_call 21; (with_reducible refine (shl_c _ _ _).mono ?_); rintro e w' ⟨rfl, rfl⟩)
  | (go_at_call 22; (with_reducible refine (shr_c _ _ _).mono ?_); rintro e w' ⟨rfl, rfl⟩)
  | (go_at_call 23; (with_reducible refine (sar_c _ _ _).mono ?_); rintro e w' ⟨rfl, rfl⟩)
  | (go_at_call 17; (with_reducible refine (eq_c _ _ _).mono ?_); rintro e w' ⟨rfl, rfl⟩)
  | (go_at_call 34; (with_reducible refine (below_c _ _ _).mono ?_); rintro e w' ⟨rfl, rfl⟩)
  | (go_at_call 12; (with_reducible refine (neg_c _ _).mono ?_); rintro e w' ⟨rfl, rfl⟩)
  | (go_at_call 14; (with_reducible refine (not_c _ _).mono ?_); rintro e w' ⟨rfl, rfl⟩)
  | (go_at_call 15; (with_reducible refine (pick_c _ _ _ _).mono ?_); rintro e w' ⟨rfl, rfl⟩)
  | (go_at_call 11; (with_reducible refine (known_c _).mono ?_); rintro e w' ⟨rfl, rfl⟩)
  | (go_at_call 16; (with_reducible refine (rpick_c _ _ _ _).mono ?_); rintro e w' ⟨rfl, rfl⟩)
  | (go_at_call 25; (with_reducible refine (lt_c _ _ HA.out HB.out _).mono ?_); rintro e w' ⟨rfl, rfl⟩)
  | (go_at_call 25; (with_reducible refine (lt_c _ _ HB.out HA.out _).mono ?_); rintro e w' ⟨rfl, rfl⟩)
  | (go_at_call 28; (with_reducible refine (div_c _ _ HA.out HB.out _).mono ?_); rintro e w' ⟨rfl, rfl⟩)
  | (go_at_call 29; (with_reducible refine (rem_c _ _ HA.out HB.out _).mono ?_); rintro e w' ⟨rfl, rfl⟩))
  go_ret
  exact ⟨rfl, rfl⟩
set_option maxHeartbeats 2000000 in
set_option maxRecDepth 100000 in
theorem wordLaws_walk1 (a b c : Int) (ha : Wd.R a) (hb : Wd.R b) (hz : ¬ b = 0) (w : World) :
    Calls Try.prog 8 #[.int .i32 a, .int .i32 b, .int .i32 c] w fun e w' => e = .returned (.bool true) ∧ w = w' := by
  have h1 := beq_t (Wd.l_add_comm a b)
  have h2 := beq_t (Wd.l_sub_add a b ha)
  have h3 := beq_t (Wd.l_mul_add a b c)
  have h4 := beq_t (Wd.l_neg a)
  have h5 := beq_t (Wd.l_xor a b ha)
  have h6 := beq_t (Wd.l_lt a b ha hb)
  have h7 := beq_t (Wd.l_below a b ha hb)
  have h8 := beq_t (Wd.l_or a b ha)
  have HA := Lib.hid ha
  have HB := Lib.hid hb; clear hb
  have h9 : (b != 0) = true := by simpa using hz
  have h10 := beq_t (Wd.l_div a b ha hz)
  clear ha hz
  go_enter Try.func8, Try.ntmps8
  go_wp2_with (first
  | (go_at_call 24; (with_reducible refine (add_c _ _ _).mono ?_); rintro e w' ⟨rfl, rfl⟩)
  | (go_at_call 31; (with_reducible refine (sub_c _ _ _).mono ?_); rintro e w' ⟨rfl, rfl⟩)
  | (go_at_call 32; (with_reducible refine (mul_c _ _ _).mono ?_); rintro e w' ⟨rfl, rfl⟩)
  | (go_at_call 19; (with_reducible refine (and_c _ _ _).mono ?_); rintro e w' ⟨rfl, rfl⟩)
  | (go_at_call 18; (with_reducible refine (or_c _ _ _).mono ?_); rintro e w' ⟨rfl, rfl⟩)
  | (go_at_call 33; (with_reducible refine (xor_c _ _ _).mono ?_); rintro e w' ⟨rfl, rfl⟩)
  | (go_at_call 21; (with_reducible refine (shl_c _ _ _).mono ?_); rintro e w' ⟨rfl, rfl⟩)
  | (go_at_call 22; (with_reducible refine (shr_c _ _ _).mono ?_); rintro e w' ⟨rfl, rfl⟩)
  | (go_at_call 23; (with_reducible refine (sar_c _ _ _).mono ?_); rintro e w' ⟨rfl, rfl⟩)
  | (go_at_call 17; (with_reducible refine (eq_c _ _ _).mono ?_); rintro e w' ⟨rfl, rfl⟩)
  | (go_at_call 34; (with_reducible refine (below_c _ _ _).mono ?_); rintro e w' ⟨rfl, rfl⟩)
  | (go_at_call 12; (with_reducible refine (neg_c _ _).mono ?_); rintro e w' ⟨rfl, rfl⟩)
  | (go_at_call 14; (with_reducible refine (not_c _ _).mono ?_); rintro e w' ⟨rfl, rfl⟩)
  | (go_at_call 15; (with_reducible refine (pick_c _ _ _ _).mono ?_); rintro e w' ⟨rfl, rfl⟩)
  | (go_at_call 11; (with_reducible refine (known_c _).mono ?_); rintro e w' ⟨rfl, rfl⟩)
  | (go_at_call 16; (with_reducible refine (rpick_c _ _ _ _).mono ?_); rintro e w' ⟨rfl, rfl⟩)
  | (go_at_call 25; (with_reducible refine (lt_c _ _ HA.out HB.out _).mono ?_); rintro e w' ⟨rfl, rfl⟩)
  | (go_at_call 25; (with_reducible refine (lt_c _ _ HB.out HA.out _).mono ?_); rintro e w' ⟨rfl, rfl⟩)
  | (go_at_call 28; (with_reducible refine (div_c _ _ HA.out HB.out _).mono ?_); rintro e w' ⟨rfl, rfl⟩)
  | (go_at_call 29; (with_reducible refine (rem_c _ _ HA.out HB.out _).mono ?_); rintro e w' ⟨rfl, rfl⟩))
  go_ret
  exact ⟨rfl, rfl⟩
theorem wordLaws_walk (a b c : Int) (ha : Wd.R a) (hb : Wd.R b) (w : World) :
    Calls Try.prog 8 #[.int .i32 a, .int .i32 b, .int .i32 c] w fun e w' => e = .returned (.bool true) ∧ w = w' := by
  by_cases hz : b = 0
  · exact wordLaws_walk0 a b c ha hb hz w
  · exact wordLaws_walk1 a b c ha hb hz w
set_option maxRecDepth 100000 in
theorem wordShifts_walk (a b : Int) (ha : Wd.R a) (hb : Wd.R b) (w : World) :
    Calls Try.prog 5 #[.int .i32 a, .int .i32 b] w fun e w' => e = .returned (.bool true) ∧ w = w' := by
  obtain ⟨k, hk⟩ : ∃ k, b % 32 = k := ⟨_, rfl⟩
  have k0 : 0 ≤ k := by omega
  have k1 : k ≤ 31 := by omega
  have h1 : (Wd.shl a b == Wd.shl a k) = true := by rw [← hk]; exact beq_t (Wd.l_shl a b)
  have h2 : (Wd.shr a b == Wd.shr a k) = true := by rw [← hk]; exact beq_t (Wd.l_shr a b)
  have h3 : (Wd.sar a b == Wd.sar a k) = true := by rw [← hk]; exact beq_t (Wd.l_sar a b)
  have h4 := beq_t (Wd.l_shl0 a ha)
  have h5 := beq_t (Wd.l_shl1 a)
  have h6 := beq_t (Wd.l_shlr a k)
  have h7 := beq_t (Wd.l_sar31 a ha)
  have h8 := beq_t (Wd.l_shl_part a k k0 k1)
  have HS := Lib.hid (Wd.sar_R a 31 ha)
  have HZ : Hid (Wd.R 0) := by unfold Hid Wd.R; omega
  have HA := Lib.hid ha; clear ha
  have HK := Lib.hid hk; clear hk
  obtain ⟨b1, b2⟩ := hb
  go_enter Try.func5, Try.ntmps5
  go_wp2_with (go_at_call 20; (with_reducible refine (hpick_c _ _ (by omega) (by omega) _).mono ?_); rintro e w' ⟨rfl, rfl⟩; rw [HK.out])
  go_wp2_with (first
    | (go_at_call 24; (with_reducible refine (add_c _ _ _).mono ?_); rintro e w' ⟨rfl, rfl⟩)
    | (go_at_call 31; (with_reducible refine (sub_c _ _ _).mono ?_); rintro e w' ⟨rfl, rfl⟩)
    | (go_at_call 32; (with_reducible refine (mul_c _ _ _).mono ?_); rintro e w' ⟨rfl, rfl⟩)
    | (go_at_call 19; (with_reducible refine (and_c _ _ _).mono ?_); rintro e w' ⟨rfl, rfl⟩)
    | (go_at_call 18; (with_reducible refine (or_c _ _ _).mono ?_); rintro e w' ⟨rfl, rfl⟩)
    | (go_at_call 33; (with_reducible refine (xor_c _ _ _).mono ?_); rintro e w' ⟨rfl, rfl⟩)
    | (go_at_call 21; (with_reducible refine (shl_c _ _ _).mono ?_); rintro e w' ⟨rfl, rfl⟩)
    | (go_at_call 22; (with_reducible refine (shr_c _ _ _).mono ?_); rintro e w' ⟨rfl, rfl⟩)
    | (go_at_call 23; (with_reducible refine (sar_c _ _ _).mono ?_); rintro e w' ⟨rfl, rfl⟩)
    | (go_at_call 17; (with_reducible refine (eq_c _ _ _).mono ?_); rintro e w' ⟨rfl, rfl⟩)
    | (go_at_call 34; (with_reducible refine (below_c _ _ _).mono ?_); rintro e w' ⟨rfl, rfl⟩)
    | (go_at_call 12; (with_reducible refine (neg_c _ _).mono ?_); rintro e w' ⟨rfl, rfl⟩)
    | (go_at_call 14; (with_reducible refine (not_c _ _).mono ?_); rintro e w' ⟨rfl, rfl⟩)
    | (go_at_call 15; (with_reducible refine (pick_c _ _ _ _).mono ?_); rintro e w' ⟨rfl, rfl⟩)
    | (go_at_call 11; (with_reducible refine (known_c _).mono ?_); rintro e w' ⟨rfl, rfl⟩)
    | (go_at_call 16; (with_reducible refine (rpick_c _ _ _ _).mono ?_); rintro e w' ⟨rfl, rfl⟩)
    | (go_at_call 25; (with_reducible refine (lt_c _ _ HA.out HZ.out _).mono ?_); rintro e w' ⟨rfl, rfl⟩)
    | (go_at_call 25; (with_reducible refine (lt_c _ _ HS.out HZ.out _).mono ?_); rintro e w' ⟨rfl, rfl⟩))
  go_ret
  exact ⟨rfl, rfl⟩
set_option maxRecDepth 100000 in
theorem wordPicks_walk (c a b : Int) (hc : Wd.R c) (ha : Wd.R a) (hb : Wd.R b) (w : World) :
    Calls Try.prog 4 #[.int .i32 c, .int .i32 a, .int .i32 b] w fun e w' => e = .returned (.bool true) ∧ w = w' := by
  have hz : Wd.R 0 := by unfold Wd.R; omega
  have hq : Wd.R (Wd.eq c 0) := by unfold Wd.eq; exact Wd.yes_R _
  have h1 : (Wd.pick c a b == Wd.or (Wd.and b (Wd.neg (Wd.eq c 0))) (Wd.and a (Wd.not (Wd.neg (Wd.eq c 0))))) = true := beq_t (by rw [Wd.pick_choose hc ha hb]; exact Wd.l_pick_mask c a b hc ha hb)
  have h2 : (Wd.pick 0 a b == b) = true := beq_t (by rw [Wd.pick_choose hz ha hb]; rfl)
  have h3 : (Wd.pick (Wd.eq c 0) b a == Wd.pick c a b) = true := beq_t (by rw [Wd.pick_choose hq hb ha, Wd.pick_choose hc ha hb]; exact Wd.l_pick_eq c a b hc)
  have h4 : (Wd.pick c a a == a) = true := beq_t (by rw [Wd.pick_choose hc ha ha]; unfold Wd.choose; split <;> rfl)
  by_cases h : (Wd.pick c a b == a) = true
  · clear hz hq ha hb hc
    go_enter Try.func4, Try.ntmps4
    go_wp2_with (first
    | (go_at_call 24; (with_reducible refine (add_c _ _ _).mono ?_); rintro e w' ⟨rfl, rfl⟩)
    | (go_at_call 31; (with_reducible refine (sub_c _ _ _).mono ?_); rintro e w' ⟨rfl, rfl⟩)
    | (go_at_call 32; (with_reducible refine (mul_c _ _ _).mono ?_); rintro e w' ⟨rfl, rfl⟩)
    | (go_at_call 19; (with_reducible refine (and_c _ _ _).mono ?_); rintro e w' ⟨rfl, rfl⟩)
    | (go_at_call 18; (with_reducible refine (or_c _ _ _).mono ?_); rintro e w' ⟨rfl, rfl⟩)
    | (go_at_call 33; (with_reducible refine (xor_c _ _ _).mono ?_); rintro e w' ⟨rfl, rfl⟩)
    | (go_at_call 21; (with_reducible refine (shl_c _ _ _).mono ?_); rintro e w' ⟨rfl, rfl⟩)
    | (go_at_call 22; (with_reducible refine (shr_c _ _ _).mono ?_); rintro e w' ⟨rfl, rfl⟩)
    | (go_at_call 23; (with_reducible refine (sar_c _ _ _).mono ?_); rintro e w' ⟨rfl, rfl⟩)
    | (go_at_call 17; (with_reducible refine (eq_c _ _ _).mono ?_); rintro e w' ⟨rfl, rfl⟩)
    | (go_at_call 34; (with_reducible refine (below_c _ _ _).mono ?_); rintro e w' ⟨rfl, rfl⟩)
    | (go_at_call 12; (with_reducible refine (neg_c _ _).mono ?_); rintro e w' ⟨rfl, rfl⟩)
    | (go_at_call 14; (with_reducible refine (not_c _ _).mono ?_); rintro e w' ⟨rfl, rfl⟩)
    | (go_at_call 15; (with_reducible refine (pick_c _ _ _ _).mono ?_); rintro e w' ⟨rfl, rfl⟩)
    | (go_at_call 11; (with_reducible refine (known_c _).mono ?_); rintro e w' ⟨rfl, rfl⟩)
    | (go_at_call 16; (with_reducible refine (rpick_c _ _ _ _).mono ?_); rintro e w' ⟨rfl, rfl⟩))
    go_ret
    exact ⟨rfl, rfl⟩
  · have h5 : (Wd.pick c a b == b) = true := by
      apply beq_t; rw [Wd.pick_choose hc ha hb] at h ⊢; unfold Wd.choose at h ⊢
      by_cases e : c = 0
      · rw [if_pos e]
      · rw [if_neg e] at h; exact absurd (beq_self_eq_true _) h
    have h6 : (Wd.pick c a b == a) = false := by simpa using h
    clear hz hq ha hb hc h
    go_enter Try.func4, Try.ntmps4
    go_wp2_with (first
    | (go_at_call 24; (with_reducible refine (add_c _ _ _).mono ?_); rintro e w' ⟨rfl, rfl⟩)
    | (go_at_call 31; (with_reducible refine (sub_c _ _ _).mono ?_); rintro e w' ⟨rfl, rfl⟩)
    | (go_at_call 32; (with_reducible refine (mul_c _ _ _).mono ?_); rintro e w' ⟨rfl, rfl⟩)
    | (go_at_call 19; (with_reducible refine (and_c _ _ _).mono ?_); rintro e w' ⟨rfl, rfl⟩)
    | (go_at_call 18; (with_reducible refine (or_c _ _ _).mono ?_); rintro e w' ⟨rfl, rfl⟩)
    | (go_at_call 33; (with_reducible refine (xor_c _ _ _).mono ?_); rintro e w' ⟨rfl, rfl⟩)
    | (go_at_call 21; (with_reducible refine (shl_c _ _ _).mono ?_); rintro e w' ⟨rfl, rfl⟩)
    | (go_at_call 22; (with_reducible refine (shr_c _ _ _).mono ?_); rintro e w' ⟨rfl, rfl⟩)
    | (go_at_call 23; (with_reducible refine (sar_c _ _ _).mono ?_); rintro e w' ⟨rfl, rfl⟩)
    | (go_at_call 17; (with_reducible refine (eq_c _ _ _).mono ?_); rintro e w' ⟨rfl, rfl⟩)
    | (go_at_call 34; (with_reducible refine (below_c _ _ _).mono ?_); rintro e w' ⟨rfl, rfl⟩)
    | (go_at_call 12; (with_reducible refine (neg_c _ _).mono ?_); rintro e w' ⟨rfl, rfl⟩)
    | (go_at_call 14; (with_reducible refine (not_c _ _).mono ?_); rintro e w' ⟨rfl, rfl⟩)
    | (go_at_call 15; (with_reducible refine (pick_c _ _ _ _).mono ?_); rintro e w' ⟨rfl, rfl⟩)
    | (go_at_call 11; (with_reducible refine (known_c _).mono ?_); rintro e w' ⟨rfl, rfl⟩)
    | (go_at_call 16; (with_reducible refine (rpick_c _ _ _ _).mono ?_); rintro e w' ⟨rfl, rfl⟩))
    go_ret
    exact ⟨rfl, rfl⟩
end Go.Proofs.Ytelkohkacdocpaa
