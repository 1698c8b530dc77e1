/- hand.Node's registers: the closure. -/
import Derived.Test.YtilifniflpbbkaaDoorPn
namespace Go.Proofs.YtilifniflpbbkaaDoor
open Go.RowKit On
def regS (n regs : Int) : Int := if n.tmod 61 = 60 then n.tmod 70 else n % (max 1 regs)
set_option maxHeartbeats 2000000 in
theorem reg_c (n regs : Int) (b : Nat) (w : World) (hr : regs ≤ 1000000) (hc : w.cell? ⟨b, 0, none⟩ = some (.int .i64 regs)) :
    Calls Tryd.prog 27 #[.int .i64 n, .pointer (some ⟨b, 0, none⟩)] w fun e w' => e = .returned (.int .i64 (regS n regs)) ∧ w = w' := by
  unfold regS
  by_cases h : n.tmod 61 = 60
  · have h' : (n.tmod 61 == 60) = true := by simp [h]
    rw [if_pos h]
    go_enter Tryd.func27, Tryd.ntmps27
    go_wp2_with fail
    go_ret
    exact ⟨rfl, rfl⟩
  · have h' : (n.tmod 61 == 60) = false := by simp [h]
    rw [if_neg h]
    by_cases h1 : 1 < regs
    · rw [show max 1 regs = regs by omega]
      go_enter Tryd.func27, Tryd.ntmps27
      go_wp2_with fail
      refine (pickN n regs (by omega) (by omega) _).mono ?_
      rintro e w' ⟨rfl, rfl⟩
      go_wp2_with fail
      go_ret
      exact ⟨rfl, rfl⟩
    · rw [show max 1 regs = 1 by omega]
      go_enter Tryd.func27, Tryd.ntmps27
      go_wp2_with fail
      refine (pickN n 1 (by omega) (by omega) _).mono ?_
      rintro e w' ⟨rfl, rfl⟩
      go_wp2_with fail
      go_ret
      exact ⟨congrArg (fun a => Ending.returned (.int .i64 a)) (show (0 : Int) = n % 1 by omega), rfl⟩
end Go.Proofs.YtilifniflpbbkaaDoor
