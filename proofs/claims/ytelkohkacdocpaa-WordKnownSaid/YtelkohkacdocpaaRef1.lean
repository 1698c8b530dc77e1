/- Contracts of the document's answers of chapter 2 (taciturnref1: Do, One, Pick) and of taciturnhand.Pick. -/
import Derived.Test.YtelkohkacdocpaaWc
import Derived.IntWalk
namespace Go.Proofs.Ytelkohkacdocpaa
open Go.RowKit
theorem yes_c (b : Bool) (w : World) :
    Calls Try.prog 35 #[.bool b] w fun e w' => e = .returned (.int .i32 (Wd.yes b)) ∧ w = w' := by
  cases b <;> (go_enter Try.func35, Try.ntmps35; go_wp2; go_ret; exact ⟨rfl, rfl⟩)
theorem do6_c (a b : Int) (ha : Wd.R a) (hb : Wd.R b) (w : World) :
    Calls Try.prog 30 #[.int .i64 6, .int .i32 a, .int .i32 b] w fun e w' => e = .returned (.int .i32 (Wd.ask 6 a b)) ∧ w = w' := by
  obtain ⟨a1, a2⟩ := ha; obtain ⟨b1, b2⟩ := hb
  go_enter Try.func30, Try.ntmps30
  go_wp2
  go_ret
  exact ⟨ret_i (by rw [Wd.wrap32_T, Wd.O_add]; rfl), rfl⟩
theorem do7_c (a b : Int) (ha : Wd.R a) (hb : Wd.R b) (w : World) :
    Calls Try.prog 30 #[.int .i64 7, .int .i32 a, .int .i32 b] w fun e w' => e = .returned (.int .i32 (Wd.ask 7 a b)) ∧ w = w' := by
  obtain ⟨a1, a2⟩ := ha; obtain ⟨b1, b2⟩ := hb
  go_enter Try.func30, Try.ntmps30
  go_wp2
  go_ret
  exact ⟨ret_i (by rw [Wd.wrap32_T, Wd.O_sub]; rfl), rfl⟩
theorem do8_c (a b : Int) (ha : Wd.R a) (hb : Wd.R b) (w : World) :
    Calls Try.prog 30 #[.int .i64 8, .int .i32 a, .int .i32 b] w fun e w' => e = .returned (.int .i32 (Wd.ask 8 a b)) ∧ w = w' := by
  obtain ⟨a1, a2⟩ := ha; obtain ⟨b1, b2⟩ := hb
  go_enter Try.func30, Try.ntmps30
  go_wp2
  go_ret
  exact ⟨ret_i (by rw [Wd.wrap32_T, Wd.O_mul]; rfl), rfl⟩
theorem do9_c (a b : Int) (ha : Wd.R a) (hb : Wd.R b) (w : World) :
    Calls Try.prog 30 #[.int .i64 9, .int .i32 a, .int .i32 b] w fun e w' => e = .returned (.int .i32 (Wd.ask 9 a b)) ∧ w = w' := by
  obtain ⟨a1, a2⟩ := ha; obtain ⟨b1, b2⟩ := hb
  go_enter Try.func30, Try.ntmps30
  go_wp2
  go_ret
  exact ⟨ret_i (Wd.bits_and a b), rfl⟩
theorem do10_c (a b : Int) (ha : Wd.R a) (hb : Wd.R b) (w : World) :
    Calls Try.prog 30 #[.int .i64 10, .int .i32 a, .int .i32 b] w fun e w' => e = .returned (.int .i32 (Wd.ask 10 a b)) ∧ w = w' := by
  obtain ⟨a1, a2⟩ := ha; obtain ⟨b1, b2⟩ := hb
  go_enter Try.func30, Try.ntmps30
  go_wp2
  go_ret
  exact ⟨ret_i (Wd.bits_or a b), rfl⟩
theorem do11_c (a b : Int) (ha : Wd.R a) (hb : Wd.R b) (w : World) :
    Calls Try.prog 30 #[.int .i64 11, .int .i32 a, .int .i32 b] w fun e w' => e = .returned (.int .i32 (Wd.ask 11 a b)) ∧ w = w' := by
  obtain ⟨a1, a2⟩ := ha; obtain ⟨b1, b2⟩ := hb
  go_enter Try.func30, Try.ntmps30
  go_wp2
  go_ret
  exact ⟨ret_i (Wd.bits_xor a b), rfl⟩
theorem do12_c (a b : Int) (ha : Wd.R a) (hb : Wd.R b) (w : World) :
    Calls Try.prog 30 #[.int .i64 12, .int .i32 a, .int .i32 b] w fun e w' => e = .returned (.int .i32 (Wd.ask 12 a b)) ∧ w = w' := by
  obtain ⟨a1, a2⟩ := ha; obtain ⟨b1, b2⟩ := hb
  obtain ⟨h1, h2⟩ := Wd.and31_range b
  go_enter Try.func30, Try.ntmps30
  go_wp2
  go_ret
  exact ⟨ret_i (Wd.shl_w a b), rfl⟩
theorem do13_c (a b : Int) (ha : Wd.R a) (hb : Wd.R b) (w : World) :
    Calls Try.prog 30 #[.int .i64 13, .int .i32 a, .int .i32 b] w fun e w' => e = .returned (.int .i32 (Wd.ask 13 a b)) ∧ w = w' := by
  obtain ⟨a1, a2⟩ := ha; obtain ⟨b1, b2⟩ := hb
  obtain ⟨h1, h2⟩ := Wd.and31_range b
  go_enter Try.func30, Try.ntmps30
  go_wp2
  go_ret
  exact ⟨ret_i (Wd.shr_w a b), rfl⟩
theorem do14_c (a b : Int) (ha : Wd.R a) (hb : Wd.R b) (w : World) :
    Calls Try.prog 30 #[.int .i64 14, .int .i32 a, .int .i32 b] w fun e w' => e = .returned (.int .i32 (Wd.ask 14 a b)) ∧ w = w' := by
  obtain ⟨a1, a2⟩ := ha; obtain ⟨b1, b2⟩ := hb
  obtain ⟨h1, h2⟩ := Wd.and31_range b
  go_enter Try.func30, Try.ntmps30
  go_wp2
  go_ret
  exact ⟨ret_i (Wd.sar_w a b), rfl⟩
theorem do19_c (a b : Int) (ha : Wd.R a) (hb : Wd.R b) (w : World) :
    Calls Try.prog 30 #[.int .i64 19, .int .i32 a, .int .i32 b] w fun e w' => e = .returned (.int .i32 (Wd.ask 19 a b)) ∧ w = w' := by
  obtain ⟨a1, a2⟩ := ha; obtain ⟨b1, b2⟩ := hb
  go_enter Try.func30, Try.ntmps30
  go_wp2_with (go_at_call 35; refine (yes_c _ _).mono ?_; rintro e w' ⟨rfl, rfl⟩)
  go_ret
  exact ⟨ret_i (rfl), rfl⟩
theorem do20_c (a b : Int) (ha : Wd.R a) (hb : Wd.R b) (w : World) :
    Calls Try.prog 30 #[.int .i64 20, .int .i32 a, .int .i32 b] w fun e w' => e = .returned (.int .i32 (Wd.ask 20 a b)) ∧ w = w' := by
  obtain ⟨a1, a2⟩ := ha; obtain ⟨b1, b2⟩ := hb
  go_enter Try.func30, Try.ntmps30
  go_wp2_with (go_at_call 35; refine (yes_c _ _).mono ?_; rintro e w' ⟨rfl, rfl⟩)
  go_ret
  exact ⟨ret_i (rfl), rfl⟩
theorem do21_c (a b : Int) (ha : Wd.R a) (hb : Wd.R b) (w : World) :
    Calls Try.prog 30 #[.int .i64 21, .int .i32 a, .int .i32 b] w fun e w' => e = .returned (.int .i32 (Wd.ask 21 a b)) ∧ w = w' := by
  obtain ⟨a1, a2⟩ := ha; obtain ⟨b1, b2⟩ := hb
  go_enter Try.func30, Try.ntmps30
  go_wp2_with (go_at_call 35; refine (yes_c _ _).mono ?_; rintro e w' ⟨rfl, rfl⟩)
  go_ret
  exact ⟨ret_i (rfl), rfl⟩
theorem do17_c (a b : Int) (ha : Wd.R a) (hb : Wd.R b) (w : World) :
    Calls Try.prog 30 #[.int .i64 17, .int .i32 a, .int .i32 b] w fun e w' => e = .returned (.int .i32 (Wd.ask 17 a b)) ∧ w = w' := by
  obtain ⟨a1, a2⟩ := ha; obtain ⟨b1, b2⟩ := hb
  by_cases h : b = 0
  · subst h
    go_enter Try.func30, Try.ntmps30
    go_wp2
    go_ret
    exact ⟨rfl, rfl⟩
  · have h1 : (b == 0) = false := by simpa using h
    have H : Hid (Wd.ask 17 a b = wrap32 (wrap64 (a.tdiv b))) := by show Wd.quo a b = _; unfold Wd.quo; rw [if_neg h]
    go_enter Try.func30, Try.ntmps30
    go_wp2
    go_ret
    rw [H.out]
    exact ⟨rfl, rfl⟩
theorem do18_c (a b : Int) (ha : Wd.R a) (hb : Wd.R b) (w : World) :
    Calls Try.prog 30 #[.int .i64 18, .int .i32 a, .int .i32 b] w fun e w' => e = .returned (.int .i32 (Wd.ask 18 a b)) ∧ w = w' := by
  obtain ⟨a1, a2⟩ := ha; obtain ⟨b1, b2⟩ := hb
  by_cases h : b = 0
  · subst h
    go_enter Try.func30, Try.ntmps30
    go_wp2
    go_ret
    exact ⟨rfl, rfl⟩
  · have h1 : (b == 0) = false := by simpa using h
    have H : Hid (Wd.ask 18 a b = wrap32 (a.tmod b)) := by show Wd.rem a b = _; unfold Wd.rem; rw [if_neg h]
    go_enter Try.func30, Try.ntmps30
    go_wp2
    go_ret
    rw [H.out]
    exact ⟨rfl, rfl⟩
theorem one15_c (a : Int) (w : World) :
    Calls Try.prog 13 #[.int .i64 15, .int .i32 a] w fun e w' => e = .returned (.int .i32 (Wd.neg a)) ∧ w = w' := by
  go_enter Try.func13, Try.ntmps13
  go_wp2
  go_ret
  exact ⟨ret_i (by rw [Wd.wrap32_T, Wd.O_neg]; rfl), rfl⟩
theorem one16_c (a : Int) (w : World) :
    Calls Try.prog 13 #[.int .i64 16, .int .i32 a] w fun e w' => e = .returned (.int .i32 (Wd.not a)) ∧ w = w' := by
  go_enter Try.func13, Try.ntmps13
  go_wp2
  go_ret
  exact ⟨ret_i (Wd.not_w a), rfl⟩
theorem rpick_c (c a b : Int) (w : World) :
    Calls Try.prog 16 #[.int .i32 c, .int .i32 a, .int .i32 b] w fun e w' => e = .returned (.int .i32 (Wd.choose c a b)) ∧ w = w' := by
  by_cases h : c = 0
  · subst h
    go_enter Try.func16, Try.ntmps16
    go_wp2
    go_ret
    exact ⟨rfl, rfl⟩
  · have h1 : (c != 0) = true := by simpa using h
    have H : Hid (Wd.choose c a b = a) := if_neg h
    rw [H.out]
    go_enter Try.func16, Try.ntmps16
    go_wp2
    go_ret
    exact ⟨rfl, rfl⟩
theorem tmod_emod (n m : Int) (hm : 0 < m) : (if n.tmod m < 0 then n.tmod m + m else n.tmod m) = n % m := by
  by_cases h : 0 ≤ n
  · rw [Int.tmod_eq_emod_of_nonneg h, if_neg (by have := Int.emod_nonneg n (by omega : m ≠ 0); omega)]
  · have e := Int.tmod_eq_emod (a := n) (b := m)
    by_cases hd : m ∣ n
    · rw [Int.tmod_eq_zero_of_dvd hd, if_neg (by omega), Int.emod_eq_zero_of_dvd hd]
    · rw [if_neg (by rintro (h1 | h1); exact h h1; exact hd h1)] at e
      have l1 := Int.emod_nonneg n (by omega : m ≠ 0); have l2 := Int.emod_lt_of_pos n hm
      have : (m.natAbs : Int) = m := by omega
      rw [this] at e; rw [e, if_pos (by omega)]; omega
theorem hpick_c (n m : Int) (hm : 0 < m) (hm2 : m ≤ 9223372036854775807) (w : World) :
    Calls Try.prog 20 #[.int .i64 n, .int .i64 m] w fun e w' => e = .returned (.int .i64 (n % m)) ∧ w = w' := by
  have H : Hid (n % m = _) := (tmod_emod n m hm).symm
  have h0 : ¬ m = 0 := by omega
  have l1 := Int.tmod_lt_of_pos n hm
  have l2 : - m < n.tmod m := by have := Int.lt_tmod_of_pos n hm; omega
  by_cases ht : n.tmod m < 0
  · rw [H.out, if_pos ht]; clear H
    go_enter Try.func20, Try.ntmps20
    go_wp2
    go_ret
    exact ⟨rfl, rfl⟩
  · rw [H.out, if_neg ht]; clear H
    go_enter Try.func20, Try.ntmps20
    go_wp2
    go_ret
    exact ⟨rfl, rfl⟩
end Go.Proofs.Ytelkohkacdocpaa
