/- MERGED by mergech.py: XThG XThJ. -/
import Derived.Test.YtpihjhfaeloapaaThE
import Derived.Test.YtpihjhfaeloapaaTh3
import Derived.Laws.BitsAllLaws
namespace Go.Proofs.Ytpihjhfaeloapaa
open Go.RowKit On Th
/-- what Right answers -/
def RightIs (i : Ins) (r : Bool) : Prop := ∀ w, Calls Try.prog 71 #[.agg #[.int .i64 i.op, .int .i64 i.d, .int .i64 i.n, .int .i64 i.m, .int .i64 i.imm, .int .i64 i.cond]] w fun e w' => e = .returned (.bool r) ∧ Below w.heap.size w w'
/-- halfwords in memory of their own -/
def HalfAt (hs : List Int) (w : World) (e : Ending) (w' : World) : Prop :=
  ∃ g, e = .returned (.tuple #[.slice (some ⟨g, 0, none⟩) hs.length hs.length, .int .i64 0]) ∧ Blk w' g 79 (hs.map (Value.int .u16)).toArray ∧ Below w.heap.size w w'
end Go.Proofs.Ytpihjhfaeloapaa
namespace Go.Proofs.Ytpihjhfaeloapaa
open Go.RowKit On Th
theorem retI {k : IntKind} {a b : Int} (h : a = b) : Ending.returned (.int k a) = .returned (.int k b) := by rw [h]
set_option maxHeartbeats 2000000 in
theorem odd_c (h : Int) (w : World) : Calls Try.prog 85 #[.int .u16 h] w fun e w' => e = .returned (.int .i64 (oddS h)) ∧ w = w' := by
  go_enter Try.func85, Try.ntmps85
  go_wp2_with fail
  all_goals
    try go_ret
    refine ⟨retI ?_, rfl⟩
    try simp only [beq_iff_eq, beq_eq_false_iff_ne, ne_eq] at *
    unfold oddS
    repeat (first | rw [if_pos (by omega)] | rw [if_neg (by omega)])
    try rfl
theorem u16_mask (h : Int) (m k : Nat) (h0 : 0 ≤ h) (h1 : h < 65536) (hm : m < 65536) (hk : ∀ x : Nat, x &&& m = x % k) : bits .and .u16 h (m : Int) = h % (k : Int) := by
  obtain ⟨n, rfl⟩ : ∃ n : Nat, h = n := ⟨h.toNat, by omega⟩
  rw [u16_and_nat n m (by omega) hm, hk]; simp
set_option maxHeartbeats 4000000 in
theorem op_c (h : Int) (w : World) (h0 : 0 ≤ h) (h1 : h < 65536) : Calls Try.prog 73 #[.int .u16 h] w fun e w' => e = .returned (.int .i64 (opS h)) ∧ w = w' := by
  have q1 : bits .and .u16 (h / 512) 3 = h / 512 % 4 := u16_mask (h / 512) 3 4 (by omega) (by omega) (by omega) nat_mask2
  have q2 : bits .and .u16 (h / 64) 15 = h / 64 % 16 := u16_mask (h / 64) 15 16 (by omega) (by omega) (by omega) nat_mask4
  go_enter Try.func73, Try.ntmps73
  go_wp2_with fail
  all_goals
    try (refine (odd_c _ _).mono ?_; rintro e w' ⟨rfl, rfl⟩; go_wp2_with fail)
    try go_ret
    refine ⟨retI ?_, rfl⟩
    try simp only [beq_iff_eq, beq_eq_false_iff_ne, ne_eq] at *
    unfold opS
    repeat (first | rw [if_pos (by omega)] | rw [if_neg (by omega)])
    try rfl
    try (rw [IntKind.wrap_u16]; unfold wrap64; omega)
set_option maxHeartbeats 2000000 in
theorem width_c (p sh b l m s : Int) (w : World) (hb : 0 ≤ b) (hb' : b < 16) : Calls Try.prog 86 #[.agg #[.int .i64 p, .int .i64 sh, .int .i64 b, .int .i64 l, .int .i64 m, .int .i64 s]] w fun e w' => e = .returned (.int .i64 (wrap64 (s * 2 ^ b.toNat))) ∧ w' = w.alloc (.cells #[.int .i64 p, .int .i64 sh, .int .i64 b, .int .i64 l, .int .i64 m, .int .i64 s] 140) := by
  go_enter Try.func86, Try.ntmps86
  go_wp2_with fail
  go_ret
  exact ⟨rfl, rfl⟩
end Go.Proofs.Ytpihjhfaeloapaa
