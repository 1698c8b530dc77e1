/- thumb.far, Decode. -/
import Derived.Test.YtpihjhfaeloapaaThK
import Derived.Test.YtpihjhfaeloapaaTh5
namespace Go.Proofs.Ytpihjhfaeloapaa
open Go.RowKit On Th
set_option maxHeartbeats 2000000 in
theorem far_c (a b : Int) (w : World) : Calls Try.prog 70 #[.int .u16 a, .int .u16 b] w fun e w' => e = .returned (.int .i64 (farE a b)) ∧ w = w' := by
  go_enter Try.func70, Try.ntmps70
  go_wp2_with fail
  go_ret
  exact ⟨rfl, rfl⟩
theorem results_cell_tmp2 {fn : Func} {p u v : Tmp} {ty : TypeId} (h : fn.results = #[.cell p ty, .tmp u, .tmp v]) (tmps : Array Value) (P : Program) (w : World) :
    (results fn tmps).run P w =
      ((asAddr (tmps.getD p undef)).run P w).andThen fun a w₁ => ((loadVar ty a).run P w₁).andThen fun x w₂ => .ok (.tuple #[x, tmps.getD u undef, tmps.getD v undef]) w₂ := by
  simp only [results, h]
  simp [Sem.run_bind, Result.andThen]
/-- what Decode answers: the instruction, how many halfwords, the number of the error -/
def DecAt (r : Ins × Int × Int) (w : World) (e : Ending) (w' : World) : Prop :=
  e = .returned (.tuple #[.agg #[.int .i64 r.1.op, .int .i64 r.1.d, .int .i64 r.1.n, .int .i64 r.1.m, .int .i64 r.1.imm, .int .i64 r.1.cond], .int .i64 r.2.1, .int .i64 r.2.2]) ∧ Below w.heap.size w w'
def Zins : Array Value := #[.int .i64 0, .int .i64 0, .int .i64 0, .int .i64 0, .int .i64 0, .int .i64 0]
theorem cell_new {w : World} {o : Obj} {p : Addr} {v : Value} (h : w.cell? p = some v) : (w.alloc o).cell? p = some v := by
  rw [((Below.refl w.heap.size w).alloc (Nat.le_refl _) o).cell (block_lt_of_cell h)]; exact h
set_option maxHeartbeats 2000000 in
theorem decode_nil (A : Option Addr) (c : Nat) (w : World) : Calls Try.prog 53 #[.slice A 0 c] w (DecAt (⟨0, 0, 0, 0, 0, 0⟩, 0, 7) w) := by
  go_enter Try.func53, Try.ntmps53
  go_wp2_with fail
  refine bodyPost_ret (v := .tuple #[.agg #[.int .i64 0, .int .i64 0, .int .i64 0, .int .i64 0, .int .i64 0, .int .i64 0], .int .i64 0, .int .i64 7]) (by rw [results_cell_tmp2 rfl]; go_simp) rfl ?_
  exact ⟨rfl, (Below.refl _ _).alloc (Nat.le_refl _) _⟩
set_option maxHeartbeats 2000000 in
theorem decode_short (g o c : Nat) (a : Int) (w : World) (ca : w.cell? ⟨g, o, none⟩ = some (.int .u16 a)) (h1 : a / 2048 = 30) :
    Calls Try.prog 53 #[.slice (some ⟨g, o, none⟩) 1 c] w (DecAt (⟨0, 0, 0, 0, 0, 0⟩, 0, 7) w) := by
  have ca' : (w.alloc (.cells #[.int .i64 0, .int .i64 0, .int .i64 0, .int .i64 0, .int .i64 0, .int .i64 0] 36)).cell? ⟨g, o, none⟩ = some (.int .u16 a) := cell_new ca
  go_enter Try.func53, Try.ntmps53
  go_wp2_with fail
  refine bodyPost_ret (v := .tuple #[.agg #[.int .i64 0, .int .i64 0, .int .i64 0, .int .i64 0, .int .i64 0, .int .i64 0], .int .i64 0, .int .i64 7]) (by rw [results_cell_tmp2 rfl]; go_simp) rfl ?_
  exact ⟨rfl, (Below.refl _ _).alloc (Nat.le_refl _) _⟩
set_option maxHeartbeats 2000000 in
theorem decode_odd (g o n c : Nat) (a b : Int) (w : World) (hn : 2 ≤ n) (ca : w.cell? ⟨g, o, none⟩ = some (.int .u16 a)) (cb : w.cell? ⟨g, o + 1, none⟩ = some (.int .u16 b)) (h1 : a / 2048 = 30) (h2 : bits .and .u16 b 53248 ≠ 53248) :
    Calls Try.prog 53 #[.slice (some ⟨g, o, none⟩) n c] w (DecAt (⟨0, 0, 0, 0, 0, 0⟩, 0, 8) w) := by
  have ca' : (w.alloc (.cells #[.int .i64 0, .int .i64 0, .int .i64 0, .int .i64 0, .int .i64 0, .int .i64 0] 36)).cell? ⟨g, o, none⟩ = some (.int .u16 a) := cell_new ca
  have cb' : (w.alloc (.cells #[.int .i64 0, .int .i64 0, .int .i64 0, .int .i64 0, .int .i64 0, .int .i64 0] 36)).cell? ⟨g, o + 1, none⟩ = some (.int .u16 b) := cell_new cb
  have hn1 : (0 : Int) < (n : Int) := by omega
  have hn2 : (1 : Int) < (n : Int) := by omega
  go_enter Try.func53, Try.ntmps53
  go_wp2_with fail
  refine bodyPost_ret (v := .tuple #[.agg #[.int .i64 0, .int .i64 0, .int .i64 0, .int .i64 0, .int .i64 0, .int .i64 0], .int .i64 0, .int .i64 8]) (by rw [results_cell_tmp2 rfl]; go_simp) rfl ?_
  exact ⟨rfl, (Below.refl _ _).alloc (Nat.le_refl _) _⟩
set_option maxHeartbeats 2000000 in
theorem decode_bl (g o n c : Nat) (a b : Int) (w : World) (hn : 2 ≤ n) (ca : w.cell? ⟨g, o, none⟩ = some (.int .u16 a)) (cb : w.cell? ⟨g, o + 1, none⟩ = some (.int .u16 b)) (h1 : a / 2048 = 30) (h2 : bits .and .u16 b 53248 = 53248) :
    Calls Try.prog 53 #[.slice (some ⟨g, o, none⟩) n c] w (DecAt (⟨43, 0, 0, 0, farE a b, 0⟩, 2, 0) w) := by
  have ca' : (w.alloc (.cells #[.int .i64 0, .int .i64 0, .int .i64 0, .int .i64 0, .int .i64 0, .int .i64 0] 36)).cell? ⟨g, o, none⟩ = some (.int .u16 a) := cell_new ca
  have cb' : (w.alloc (.cells #[.int .i64 0, .int .i64 0, .int .i64 0, .int .i64 0, .int .i64 0, .int .i64 0] 36)).cell? ⟨g, o + 1, none⟩ = some (.int .u16 b) := cell_new cb
  have hn1 : (0 : Int) < (n : Int) := by omega
  have hn2 : (1 : Int) < (n : Int) := by omega
  go_enter Try.func53, Try.ntmps53
  go_wp2_with fail
  refine (far_c _ _ _).mono ?_
  rintro e w' ⟨rfl, rfl⟩
  go_wp2_with fail
  refine bodyPost_ret (v := .tuple #[.agg #[.int .i64 43, .int .i64 0, .int .i64 0, .int .i64 0, .int .i64 (farE a b), .int .i64 0], .int .i64 2, .int .i64 0]) (by rw [results_cell_tmp2 rfl]; go_simp) rfl ?_
  exact ⟨rfl, (Below.refl _ _).alloc (Nat.le_refl _) _⟩
end Go.Proofs.Ytpihjhfaeloapaa
