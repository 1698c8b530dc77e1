/- The contract of word.SameBytes. -/
import Derived.Test.YtelkohkacdocpaaWc
import Derived.Test.YtelkohkacdocpaaBytes
import Derived.Deep.QuietTactic
import Derived.BigQuiet
namespace Go.Proofs.Ytelkohkacdocpaa
open Go.RowKit By
def Quiet (v : Value) (w : World) (e : Ending) (w' : World) : Prop := e = .returned v ∧ ∃ k, w' = w.drewN k
theorem some_yes (v : Int) (h0 : 0 ≤ v) (h1 : v ≤ 255) : wrap32 (1 - Wd.some' v) = Wd.yes (v == 0) := by
  have : (Wd.O v != 0#32) = !(v == 0) := by
    have h := Wd.O_zero (x := v) (by unfold Wd.R; omega)
    by_cases e : v = 0
    · rw [h.mpr e, e]; rfl
    · have e2 := fun k => e (h.mp k)
      rw [bne_iff_ne.mpr e2, beq_eq_false_iff_ne.mpr e]; rfl
  unfold Wd.some'; rw [this]; cases (v == 0) <;> simp [Wd.yes, wrap32]
set_option maxHeartbeats 400000 in
theorem same_c (A B : Option Addr) (n c m d : Nat) (xs ys : List Int) (w : World) (ha : Bs w A n xs) (hb : Bs w B m ys) (hn : n ≤ maxLen) :
    Calls Try.prog 27 #[.slice A n c, .slice B m d] w (Quiet (.int .i32 (Wd.yes (xs == ys))) w) := by
  unfold maxLen at hn
  by_cases hnm : n = m
  · subst hnm
    have H1 : Hid ((xs.take n = ys.take n) ↔ xs = ys) := by
      unfold Hid; rw [List.take_of_length_le (Nat.le_of_eq ha.len), List.take_of_length_le (Nat.le_of_eq hb.len)]
    have HA := Lib.hid ha; have HB := Lib.hid hb; clear ha hb
    have hne : ((n : Int) != (n : Int)) = false := by simp
    go_enter Try.func27, Try.ntmps27
    go_wp2_with fail
    go_loopw [5, 14] (fun v i wr => ∃ (k : Nat) (z : Int), k ≤ n ∧ i = .int .i64 k ∧ v = .int .u8 z ∧ 0 ≤ z ∧ z ≤ 255 ∧ (z = 0 ↔ xs.take k = ys.take k) ∧ ∃ q, wr = w.drewN q) (fun _ i _ => n - (intOf i).toNat)
    case atStart => exact ⟨0, 0, Nat.zero_le _, rfl, rfl, by omega, by omega, by simp, 0, rfl⟩
    case round =>
      obtain ⟨k, z, hk, rfl, rfl, hz0, hz1, hz, q, rfl⟩ := hrel
      have HZ := Lib.hid hz; clear hz
      by_cases hlt : k < n
      · cases A with
        | none => have := HA.out.none_ rfl; omega
        | some a => cases B with
          | none => have := HB.out.none_ rfl; omega
          | some b =>
            obtain ⟨b1, o1, s1⟩ := a; obtain ⟨b2, o2, s2⟩ := b
            obtain ⟨c1, rfl, _⟩ := HA.out.cell b1 o1 s1 k rfl hlt
            obtain ⟨c2, rfl, _⟩ := HB.out.cell b2 o2 s2 k rfl hlt
            have HO := Lib.hid (orx z (xs.getD k 0) (ys.getD k 0) ⟨hz0, hz1⟩ (getD_byte HA.out.byte k) (getD_byte HB.out.byte k))
            have HT := Lib.hid (take_eq_succ xs ys k (by rw [HA.out.len]; exact hlt) (by rw [HB.out.len]; exact hlt))
            have hx := getD_byte HA.out.byte k
            have hy := getD_byte HB.out.byte k
            clear HA HB
            generalize xs.getD k 0 = x at *
            generalize ys.getD k 0 = y at *
            go_wp2_with fail
            go_quiet (fail)
            go_wp2
            go_roundw
            case rel => exact ⟨k + 1, _, by omega, by go_num, rfl, HO.out.1, HO.out.2.1, by rw [HT.out, HO.out.2.2, HZ.out], _, rfl⟩
            case measure => simp [intOf]; omega
      · have : k = n := by omega
        subst this
        have HE : Hid (Wd.yes (z == 0) = Wd.yes (xs == ys)) := by
          unfold Hid; congr 1; rw [Bool.eq_iff_iff, beq_iff_eq, beq_iff_eq, HZ.out, H1.out]
        have HS := Lib.hid (some_yes z hz0 hz1)
        go_wp2_with (go_at_call 36; refine (some_c _ _).mono ?_; rintro e w' ⟨rfl, rfl⟩)
        go_ret
        exact ⟨ret_i (by rw [HS.out, HE.out]), _, rfl⟩
  · have hne : ((n : Int) != (m : Int)) = true := by rw [bne_iff_ne]; omega
    have HE : Hid (Wd.yes (xs == ys) = 0) := by
      have : (xs == ys) = false := by
        rw [beq_eq_false_iff_ne]; rintro rfl; exact hnm (ha.len.symm.trans hb.len)
      unfold Hid; rw [this]; rfl
    clear ha hb
    rw [HE.out]
    go_enter Try.func27, Try.ntmps27
    go_wp2
    go_ret
    exact ⟨rfl, 0, rfl⟩
end Go.Proofs.Ytelkohkacdocpaa
