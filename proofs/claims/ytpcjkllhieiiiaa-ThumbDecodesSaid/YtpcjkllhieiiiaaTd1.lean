/- ref14.sign; ref14.Decode of one halfword. -/
import Derived.Test.YtpcjkllhieiiiaaThR
import Derived.Test.YtpcjkllhieiiiaaThL
import Derived.Test.YtpcjkllhieiiiaaTh9
import Derived.Deep.DeepCutAuto
import Derived.Deep.CutBlock
import Derived.BigGuardPart
namespace Go.Proofs.Ytpcjkllhieiiiaa
open Go.RowKit On Th
def sgn8 (n : Int) : Int := if 128 ≤ n then wrap64 (n - 256) else n
set_option maxHeartbeats 1000000 in
theorem sign_8 (n : Int) (w : World) : Calls Try.prog 33 #[.int .i64 n, .int .i64 8] w fun e w' => e = .returned (.int .i64 (sgn8 n)) ∧ w = w' := by
  have hs : Hid (sgn8 n = if 128 ≤ n then wrap64 (n - 256) else n) := rfl
  by_cases h : 128 ≤ n
  · rw [hs.out, if_pos h]; clear hs
    go_enter Try.func33, Try.ntmps33
    go_wp2_with fail
    go_ret
    exact ⟨rfl, rfl⟩
  · rw [hs.out, if_neg h]; clear hs
    go_enter Try.func33, Try.ntmps33
    go_wp2_with fail
    go_ret
    exact ⟨rfl, rfl⟩
def sgn11 (n : Int) : Int := if 1024 ≤ n then wrap64 (n - 2048) else n
set_option maxHeartbeats 1000000 in
theorem sign_11 (n : Int) (w : World) : Calls Try.prog 33 #[.int .i64 n, .int .i64 11] w fun e w' => e = .returned (.int .i64 (sgn11 n)) ∧ w = w' := by
  have hs : Hid (sgn11 n = if 1024 ≤ n then wrap64 (n - 2048) else n) := rfl
  by_cases h : 1024 ≤ n
  · rw [hs.out, if_pos h]; clear hs
    go_enter Try.func33, Try.ntmps33
    go_wp2_with fail
    go_ret
    exact ⟨rfl, rfl⟩
  · rw [hs.out, if_neg h]; clear hs
    go_enter Try.func33, Try.ntmps33
    go_wp2_with fail
    go_ret
    exact ⟨rfl, rfl⟩
theorem i64_m1' (x : Int) : bits .and .i64 x 1 = x % 2 := i64_mask 1 (by decide) x
theorem i64_m3' (x : Int) : bits .and .i64 x 3 = x % 4 := i64_mask 2 (by decide) x
theorem i64_m7' (x : Int) : bits .and .i64 x 7 = x % 8 := i64_mask 3 (by decide) x
theorem i64_m15' (x : Int) : bits .and .i64 x 15 = x % 16 := i64_mask 4 (by decide) x
theorem i64_m31' (x : Int) : bits .and .i64 x 31 = x % 32 := i64_mask 5 (by decide) x
theorem i64_m127' (x : Int) : bits .and .i64 x 127 = x % 128 := i64_mask 7 (by decide) x
theorem i64_m255' (x : Int) : bits .and .i64 x 255 = x % 256 := i64_mask 8 (by decide) x
theorem i64_m511' (x : Int) : bits .and .i64 x 511 = x % 512 := i64_mask 9 (by decide) x
theorem i64_m2047' (x : Int) : bits .and .i64 x 2047 = x % 2048 := i64_mask 11 (by decide) x
theorem sgn8_eq (n : Int) (h0 : 0 ≤ n) (h1 : n < 256) : sgn8 n = signS n 256 := by
  unfold sgn8 signS
  by_cases h : 128 ≤ n
  · rw [if_pos h, if_pos (by omega), w64 (by omega) (by omega)]
  · rw [if_neg h, if_neg (by omega)]
theorem sgn11_eq (n : Int) (h0 : 0 ≤ n) (h1 : n < 2048) : sgn11 n = signS n 2048 := by
  unfold sgn11 signS
  by_cases h : 1024 ≤ n
  · rw [if_pos h, if_pos (by omega), w64 (by omega) (by omega)]
  · rw [if_neg h, if_neg (by omega)]
theorem signS_range (n k : Int) (h0 : 0 ≤ n) (h1 : n < k) : - k ≤ signS n k ∧ signS n k < k := by
  unfold signS
  by_cases h : k / 2 ≤ n
  · rw [if_pos h]; omega
  · rw [if_neg h]; omega
theorem blk_ins {w : World} {b : Nat} {i : Ins} {r0 r1 r2 r3 r4 r5 : Int} (h : Blk w b 24 #[.int .i64 r0, .int .i64 r1, .int .i64 r2, .int .i64 r3, .int .i64 r4, .int .i64 r5]) (e : (⟨r0, r1, r2, r3, r4, r5⟩ : Ins) = i) :
    Blk w b 24 #[.int .i64 i.op, .int .i64 i.d, .int .i64 i.n, .int .i64 i.m, .int .i64 i.imm, .int .i64 i.cond] := by subst e; exact h
theorem ins_eq {a0 a1 a2 a3 a4 a5 b0 b1 b2 b3 b4 b5 : Int} (h0 : a0 = b0) (h1 : a1 = b1) (h2 : a2 = b2) (h3 : a3 = b3) (h4 : a4 = b4) (h5 : a5 = b5) : (⟨a0, a1, a2, a3, a4, a5⟩ : Ins) = ⟨b0, b1, b2, b3, b4, b5⟩ := by subst h0; subst h1; subst h2; subst h3; subst h4; subst h5; rfl
def RefOne (a k : Int) (i : Ins) : Prop := (k, i) = (if rightS (decR1 a) then (1, decR1 a) else (-1, ⟨0, 0, 0, 0, 0, 0⟩))
end Go.Proofs.Ytpcjkllhieiiiaa
