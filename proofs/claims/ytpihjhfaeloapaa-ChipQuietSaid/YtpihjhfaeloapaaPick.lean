/- The contract of taciturnhand.Pick, and small words for a call's end. -/
import Derived.Test.YtpihjhfaeloapaaRows
import Derived.Test.YtpihjhfaeloapaaOnly
import Derived.WalkLawsBesides
namespace Go.Proofs.Ytpihjhfaeloapaa
open Go.RowKit
theorem retI {k : IntKind} {a b : Int} (h : a = b) : Ending.returned (.int k a) = .returned (.int k b) := by rw [h]
theorem retB {a b : Bool} (h : a = b) : Ending.returned (.bool a) = .returned (.bool b) := by rw [h]
theorem tmodEmod (n m : Int) (hm : 0 < m) : (if n.tmod m < 0 then n.tmod m + m else n.tmod m) = n % m := by
  by_cases h : 0 ≤ n
  · rw [Int.tmod_eq_emod_of_nonneg h, if_neg (by have := Int.emod_nonneg n (by omega : m ≠ 0); omega)]
  · have e := Int.tmod_eq_emod (a := n) (b := m)
    by_cases hd : m ∣ n
    · rw [Int.tmod_eq_zero_of_dvd hd, if_neg (by omega), Int.emod_eq_zero_of_dvd hd]
    · rw [if_neg (by rintro (h1 | h1); exact h h1; exact hd h1)] at e
      have l1 := Int.emod_nonneg n (by omega : m ≠ 0); have l2 := Int.emod_lt_of_pos n hm
      have : (m.natAbs : Int) = m := by omega
      rw [this] at e; rw [e, if_pos (by omega)]; omega
theorem pickN (n m : Int) (hm : 0 < m) (hm2 : m ≤ 9223372036854775807) (w : World) :
    Calls Try.prog 27 #[.int .i64 n, .int .i64 m] w fun e w' => e = .returned (.int .i64 (n % m)) ∧ w = w' := by
  have H : Hid (n % m = _) := (tmodEmod n m hm).symm
  have h0 : ¬ m = 0 := by omega
  have l1 := Int.tmod_lt_of_pos n hm
  have l2 : - m < n.tmod m := by have := Int.lt_tmod_of_pos n hm; omega
  by_cases ht : n.tmod m < 0
  · rw [H.out, if_pos ht]; clear H
    go_enter Try.func27, Try.ntmps27
    go_wp2
    go_ret
    exact ⟨rfl, rfl⟩
  · rw [H.out, if_neg ht]; clear H
    go_enter Try.func27, Try.ntmps27
    go_wp2
    go_ret
    exact ⟨rfl, rfl⟩
end Go.Proofs.Ytpihjhfaeloapaa
