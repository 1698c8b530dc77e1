/- Contracts of the functions of package word, and of the document's answers Do, One, Pick, that a law reaches: each is what the plain functions of XWord say. -/
import Derived.Test.YtelkohkacdocpaaRows
import Derived.Test.YtelkohkacdocpaaWord
import Derived.WalkKit
import Derived.Lib.Hide
import Derived.WalkSpells
import Derived.WalkLawsBesides
namespace Go.Proofs.Ytelkohkacdocpaa
open Go.RowKit
theorem ret_i {k : IntKind} {a b : Int} (h : a = b) : Ending.returned (.int k a) = .returned (.int k b) := by rw [h]
theorem add_c (a b : Int) (w : World) :
    Calls Try.prog 24 #[.int .i32 a, .int .i32 b] w fun e w' => e = .returned (.int .i32 (Wd.add a b)) ∧ w = w' := by
  go_enter Try.func24, Try.ntmps24
  go_wp2
  go_ret
  exact ⟨ret_i (by rw [Wd.wrap32_T, Wd.O_add]; rfl), rfl⟩
theorem sub_c (a b : Int) (w : World) :
    Calls Try.prog 31 #[.int .i32 a, .int .i32 b] w fun e w' => e = .returned (.int .i32 (Wd.sub a b)) ∧ w = w' := by
  go_enter Try.func31, Try.ntmps31
  go_wp2
  go_ret
  exact ⟨ret_i (by rw [Wd.wrap32_T, Wd.O_sub]; rfl), rfl⟩
theorem mul_c (a b : Int) (w : World) :
    Calls Try.prog 32 #[.int .i32 a, .int .i32 b] w fun e w' => e = .returned (.int .i32 (Wd.mul a b)) ∧ w = w' := by
  go_enter Try.func32, Try.ntmps32
  go_wp2
  go_ret
  exact ⟨ret_i (by rw [Wd.wrap32_T, Wd.O_mul]; rfl), rfl⟩
theorem and_c (a b : Int) (w : World) :
    Calls Try.prog 19 #[.int .i32 a, .int .i32 b] w fun e w' => e = .returned (.int .i32 (Wd.and a b)) ∧ w = w' := by
  go_enter Try.func19, Try.ntmps19
  go_wp2
  go_ret
  exact ⟨ret_i (Wd.bits_and a b), rfl⟩
theorem or_c (a b : Int) (w : World) :
    Calls Try.prog 18 #[.int .i32 a, .int .i32 b] w fun e w' => e = .returned (.int .i32 (Wd.or a b)) ∧ w = w' := by
  go_enter Try.func18, Try.ntmps18
  go_wp2
  go_ret
  exact ⟨ret_i (Wd.bits_or a b), rfl⟩
theorem xor_c (a b : Int) (w : World) :
    Calls Try.prog 33 #[.int .i32 a, .int .i32 b] w fun e w' => e = .returned (.int .i32 (Wd.xor a b)) ∧ w = w' := by
  go_enter Try.func33, Try.ntmps33
  go_wp2
  go_ret
  exact ⟨ret_i (Wd.bits_xor a b), rfl⟩
theorem shl_c (a b : Int) (w : World) :
    Calls Try.prog 21 #[.int .i32 a, .int .i32 b] w fun e w' => e = .returned (.int .i32 (Wd.shl a b)) ∧ w = w' := by
  obtain ⟨h1, h2⟩ := Wd.and31_range b
  go_enter Try.func21, Try.ntmps21
  go_wp2
  go_ret
  exact ⟨ret_i (Wd.shl_w a b), rfl⟩
theorem shr_c (a b : Int) (w : World) :
    Calls Try.prog 22 #[.int .i32 a, .int .i32 b] w fun e w' => e = .returned (.int .i32 (Wd.shr a b)) ∧ w = w' := by
  obtain ⟨h1, h2⟩ := Wd.and31_range b
  go_enter Try.func22, Try.ntmps22
  go_wp2
  go_ret
  exact ⟨ret_i (Wd.shr_w a b), rfl⟩
theorem sar_c (a b : Int) (w : World) :
    Calls Try.prog 23 #[.int .i32 a, .int .i32 b] w fun e w' => e = .returned (.int .i32 (Wd.sar a b)) ∧ w = w' := by
  obtain ⟨h1, h2⟩ := Wd.and31_range b
  go_enter Try.func23, Try.ntmps23
  go_wp2
  go_ret
  exact ⟨ret_i (Wd.sar_w a b), rfl⟩
theorem lt_c (a b : Int) (ha : Wd.R a) (hb : Wd.R b) (w : World) :
    Calls Try.prog 25 #[.int .i32 a, .int .i32 b] w fun e w' => e = .returned (.int .i32 (Wd.lt a b)) ∧ w = w' := by
  have H := Lib.hid ha; have H2 := Lib.hid hb; obtain ⟨a1, a2⟩ := ha; obtain ⟨b1, b2⟩ := hb
  go_enter Try.func25, Try.ntmps25
  go_wp2
  go_ret
  exact ⟨ret_i (Wd.lt_w a b H.out H2.out), rfl⟩
theorem below_c (a b : Int) (w : World) :
    Calls Try.prog 34 #[.int .i32 a, .int .i32 b] w fun e w' => e = .returned (.int .i32 (Wd.below a b)) ∧ w = w' := by
  go_enter Try.func34, Try.ntmps34
  go_wp2
  go_ret
  exact ⟨ret_i (Wd.below_T a b), rfl⟩
theorem neg_c (a : Int) (w : World) :
    Calls Try.prog 12 #[.int .i32 a] w fun e w' => e = .returned (.int .i32 (Wd.neg a)) ∧ w = w' := by
  go_enter Try.func12, Try.ntmps12
  go_wp2
  go_ret
  exact ⟨ret_i (by rw [Wd.wrap32_T, Wd.O_neg]; rfl), rfl⟩
theorem not_c (a : Int) (w : World) :
    Calls Try.prog 14 #[.int .i32 a] w fun e w' => e = .returned (.int .i32 (Wd.not a)) ∧ w = w' := by
  go_enter Try.func14, Try.ntmps14
  go_wp2
  go_ret
  exact ⟨ret_i (Wd.not_w a), rfl⟩
theorem some_c (a : Int) (w : World) :
    Calls Try.prog 36 #[.int .i32 a] w fun e w' => e = .returned (.int .i32 (Wd.some' a)) ∧ w = w' := by
  go_enter Try.func36, Try.ntmps36
  go_wp2_with (go_at_call 22; refine (shr_c _ _ _).mono ?_; rintro e w' ⟨rfl, rfl⟩)
  go_ret
  exact ⟨ret_i (Wd.some_w a), rfl⟩
theorem eq_c (a b : Int) (w : World) :
    Calls Try.prog 17 #[.int .i32 a, .int .i32 b] w fun e w' => e = .returned (.int .i32 (Wd.eq a b)) ∧ w = w' := by
  go_enter Try.func17, Try.ntmps17
  go_wp2_with (go_at_call 36; refine (some_c _ _).mono ?_; rintro e w' ⟨rfl, rfl⟩)
  go_ret
  exact ⟨ret_i (Wd.eq_w a b), rfl⟩
theorem pick_c (c a b : Int) (w : World) :
    Calls Try.prog 15 #[.int .i32 c, .int .i32 a, .int .i32 b] w fun e w' => e = .returned (.int .i32 (Wd.pick c a b)) ∧ w = w' := by
  go_enter Try.func15, Try.ntmps15
  go_wp2_with (go_at_call 36; refine (some_c _ _).mono ?_; rintro e w' ⟨rfl, rfl⟩)
  go_ret
  exact ⟨ret_i (Wd.pick_T c a b), rfl⟩
theorem div_c (a b : Int) (ha : Wd.R a) (hb : Wd.R b) (w : World) :
    Calls Try.prog 28 #[.int .i32 a, .int .i32 b] w fun e w' => e = .returned (.tuple #[.int .i32 (Wd.quo a b), .bool (b != 0)]) ∧ w = w' := by
  obtain ⟨a1, a2⟩ := ha; obtain ⟨b1, b2⟩ := hb
  by_cases h : b = 0
  · subst h
    go_enter Try.func28, Try.ntmps28
    go_wp2
    go_ret2
    exact ⟨rfl, rfl⟩
  · have h1 : (b == 0) = false := by simpa using h
    have H : Hid (Wd.quo a b = wrap32 (wrap64 (a.tdiv b))) := by unfold Hid Wd.quo; rw [if_neg h]
    have H2 : Hid ((b != 0) = true) := by unfold Hid; simpa using h
    go_enter Try.func28, Try.ntmps28
    go_wp2
    go_ret2
    rw [H.out, H2.out]
    exact ⟨rfl, rfl⟩
theorem rem_c (a b : Int) (ha : Wd.R a) (hb : Wd.R b) (w : World) :
    Calls Try.prog 29 #[.int .i32 a, .int .i32 b] w fun e w' => e = .returned (.tuple #[.int .i32 (Wd.rem a b), .bool (b != 0)]) ∧ w = w' := by
  obtain ⟨a1, a2⟩ := ha; obtain ⟨b1, b2⟩ := hb
  by_cases h : b = 0
  · subst h
    go_enter Try.func29, Try.ntmps29
    go_wp2
    go_ret2
    exact ⟨rfl, rfl⟩
  · have h1 : (b == 0) = false := by simpa using h
    have H : Hid (Wd.rem a b = wrap32 (a.tmod b)) := by unfold Hid Wd.rem; rw [if_neg h]
    have H2 : Hid ((b != 0) = true) := by unfold Hid; simpa using h
    go_enter Try.func29, Try.ntmps29
    go_wp2
    go_ret2
    rw [H.out, H2.out]
    exact ⟨rfl, rfl⟩
end Go.Proofs.Ytelkohkacdocpaa
