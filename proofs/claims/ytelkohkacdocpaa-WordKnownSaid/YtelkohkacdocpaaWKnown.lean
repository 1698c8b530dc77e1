/- Contracts of the law package's own functions known and two. -/
import Derived.Test.YtelkohkacdocpaaRef1
import Derived.ProofKit
import Derived.OpenShut
namespace Go.Proofs.Ytelkohkacdocpaa
open Go.ChangeShapes Go.WideShapes Go.ChangeAt Go.RowKit
set_option maxHeartbeats 400000

theorem known_c (w : World) : Calls Try.prog 11 #[] w fun e w' => e = .returned (.bool true) ∧ w = w' := by
  have h1 : (Wd.shl 1 33 == 2) = true := by decide +kernel
  have h2 : (Wd.sar (-8) 1 == -4) = true := by decide +kernel
  have h3 : (Wd.below (-1) 1 == 0) = true := by decide +kernel
  have h4 : (Wd.pick 7 1 2 == 1) = true := by decide +kernel
  go_enter Try.func11, Try.ntmps11
  go_wp2_with (first
    | (go_at_call 24; refine (add_c _ _ _).mono ?_; rintro e w' ⟨rfl, rfl⟩)
    | (go_at_call 31; refine (sub_c _ _ _).mono ?_; rintro e w' ⟨rfl, rfl⟩)
    | (go_at_call 32; refine (mul_c _ _ _).mono ?_; rintro e w' ⟨rfl, rfl⟩)
    | (go_at_call 19; refine (and_c _ _ _).mono ?_; rintro e w' ⟨rfl, rfl⟩)
    | (go_at_call 18; refine (or_c _ _ _).mono ?_; rintro e w' ⟨rfl, rfl⟩)
    | (go_at_call 33; refine (xor_c _ _ _).mono ?_; rintro e w' ⟨rfl, rfl⟩)
    | (go_at_call 21; refine (shl_c _ _ _).mono ?_; rintro e w' ⟨rfl, rfl⟩)
    | (go_at_call 22; refine (shr_c _ _ _).mono ?_; rintro e w' ⟨rfl, rfl⟩)
    | (go_at_call 23; refine (sar_c _ _ _).mono ?_; rintro e w' ⟨rfl, rfl⟩)
    | (go_at_call 17; refine (eq_c _ _ _).mono ?_; rintro e w' ⟨rfl, rfl⟩)
    | (go_at_call 34; refine (below_c _ _ _).mono ?_; rintro e w' ⟨rfl, rfl⟩)
    | (go_at_call 12; refine (neg_c _ _).mono ?_; rintro e w' ⟨rfl, rfl⟩)
    | (go_at_call 14; refine (not_c _ _).mono ?_; rintro e w' ⟨rfl, rfl⟩)
    | (go_at_call 15; refine (pick_c _ _ _ _).mono ?_; rintro e w' ⟨rfl, rfl⟩))
  go_ret
  exact ⟨rfl, rfl⟩
def SomeR (w : World) (e : Ending) (w' : World) : Prop := ∃ x : Int, Wd.R x ∧ e = .returned (.int .i32 x) ∧ w = w'
theorem two_c (a n : Int) (ha : Wd.R a) (w : World) : Calls Try.prog 10 #[.int .i32 a, .int .i64 n] w (SomeR w) := by
  have hk1 := Int.emod_nonneg n (show (9 : Int) ≠ 0 by omega); have hk2 := Int.emod_lt_of_pos n (show (0 : Int) < 9 by omega)
  have ht : Wd.R (a.tmod 64) := by
    have := Int.lt_tmod_of_pos a (show (0 : Int) < 64 by omega); have := Int.tmod_lt_of_pos a (show (0 : Int) < 64 by omega); unfold Wd.R; omega
  have hn : Wd.R (wrap32 (-a)) := by rw [Wd.wrap32_T]; exact Wd.T_range _
  have HT := Lib.hid ht; clear ht; have HN := Lib.hid hn; clear hn; have HA := Lib.hid ha; clear ha
  obtain ⟨k, hk⟩ : ∃ k, n % 9 = k := ⟨_, rfl⟩
  rw [hk] at hk1 hk2
  have HK := Lib.hid hk; clear hk
  have go : ∀ v : Int, Wd.R v → (∀ w, (Instr.index 40 (.agg #[.int .i32 a, .int .i32 a, .int .i32 0, .int .i32 1, .int .i32 (-1), .int .i32 (-2147483648), .int .i32 2147483647, .int .i32 (a.tmod 64), .int .i32 (wrap32 (-a))]) (.int .i64 k)).run Try.prog w = .ok (.int .i32 v) w) →
      Calls Try.prog 10 #[.int .i32 a, .int .i64 n] w (SomeR w) := by
    intro v hv hrun
    have HV := Lib.hid hv; clear hv
    go_enter Try.func10, Try.ntmps10
    go_wp2_with (go_at_call 20; refine (hpick_c _ _ (by omega) (by omega) _).mono ?_; rintro e w' ⟨rfl, rfl⟩; rw [HK.out])
    go_ret
    exact ⟨v, HV.out, rfl, rfl⟩
  have hk : k = 0 ∨ k = 1 ∨ k = 2 ∨ k = 3 ∨ k = 4 ∨ k = 5 ∨ k = 6 ∨ k = 7 ∨ k = 8 := by omega
  clear hk1 hk2
  rcases hk with rfl | rfl | rfl | rfl | rfl | rfl | rfl | rfl | rfl
  · exact go a HA.out (fun _ => by kernel_rfl)
  · exact go a HA.out (fun _ => by kernel_rfl)
  · exact go 0 (by unfold Wd.R; omega) (fun _ => by kernel_rfl)
  · exact go 1 (by unfold Wd.R; omega) (fun _ => by kernel_rfl)
  · exact go (-1) (by unfold Wd.R; omega) (fun _ => by kernel_rfl)
  · exact go (-2147483648) (by unfold Wd.R; omega) (fun _ => by kernel_rfl)
  · exact go 2147483647 (by unfold Wd.R; omega) (fun _ => by kernel_rfl)
  · exact go _ HT.out (fun _ => by kernel_rfl)
  · exact go _ HN.out (fun _ => by kernel_rfl)
end Go.Proofs.Ytelkohkacdocpaa
