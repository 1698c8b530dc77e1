/- Two chips that are the same are the same (==). -/
import Derived.Test.YtpihjhfaeloapaaCk
import Derived.Laws.StructEq
import Derived.ChangeKeysEq
namespace Go.Proofs.Ytpihjhfaeloapaa
open Go.RowKit On Th
theorem info_u32 : (Try.prog.info? 41).isSome = true := by kernel_rfl
theorem cells_u32 : Try.prog.cellsOf 41 = 1 := by kernel_rfl
theorem eq_items (cs : Array Value) (w : World) (l : List Nat) (h : ∀ k ∈ l, ∃ x, cs[k]? = some (.int .u32 x)) : (Op.eqItems 9998 41 1 cs cs l).run Try.prog w = .ok true w := by
  induction l with
  | nil => simp [Op.eqItems]
  | cons k l ih =>
    obtain ⟨x, hx⟩ := h k List.mem_cons_self
    have hi := ih (fun j hj => h j (List.mem_cons_of_mem _ hj))
    have hp : ∀ wq, (part 41 cs (k * 1)).run Try.prog wq = .ok (.int .u32 x) wq := fun wq => by
      rw [Nat.mul_one]
      go_simp
    simp only [Op.eqItems, Sem.run_bind, hp, Result.andThen_ok]
    go_simp
theorem eq_regs (cs : Array Value) (w : World) (h : ∀ k, k < 16 → ∃ x, cs[k]? = some (.int .u32 x)) : (Op.equalIn 9999 42 (.agg cs) (.agg cs)).run Try.prog w = .ok true w := by
  obtain ⟨i, hi⟩ := Option.isSome_iff_exists.mp info_u32
  have hu : Try.prog.underlying 42 = some (.array 16 41) := by kernel_rfl
  rw [run_equalIn_array w 9998 _ _ hu hi, cells_u32]
  exact eq_items cs w _ (fun k hk => h k (List.mem_range.mp hk))
set_option maxRecDepth 100000 in
theorem eq_chip0 (r0 r1 r2 r3 r4 r5 r6 r7 r8 r9 r10 r11 r12 r13 r14 r15 s n y : Int) (nf zf cf vf : Bool) (w : World) :
  (Op.equalIn 10000 44 (.agg #[.int .u32 r0, .int .u32 r1, .int .u32 r2, .int .u32 r3, .int .u32 r4, .int .u32 r5, .int .u32 r6, .int .u32 r7, .int .u32 r8, .int .u32 r9, .int .u32 r10, .int .u32 r11, .int .u32 r12, .int .u32 r13, .int .u32 r14, .int .u32 r15, .bool nf, .bool zf, .bool cf, .bool vf, .int .i64 s, .int .i64 n, .int .i64 y]) (.agg #[.int .u32 r0, .int .u32 r1, .int .u32 r2, .int .u32 r3, .int .u32 r4, .int .u32 r5, .int .u32 r6, .int .u32 r7, .int .u32 r8, .int .u32 r9, .int .u32 r10, .int .u32 r11, .int .u32 r12, .int .u32 r13, .int .u32 r14, .int .u32 r15, .bool nf, .bool zf, .bool cf, .bool vf, .int .i64 s, .int .i64 n, .int .i64 y])).run Try.prog w = .ok true w := by
  rw [run_equalIn_agg w _ _ _ _ rfl (by kernel_rfl)]
  go_simp
  have e42 := eq_regs #[.int .u32 r0, .int .u32 r1, .int .u32 r2, .int .u32 r3, .int .u32 r4, .int .u32 r5, .int .u32 r6, .int .u32 r7, .int .u32 r8, .int .u32 r9, .int .u32 r10, .int .u32 r11, .int .u32 r12, .int .u32 r13, .int .u32 r14, .int .u32 r15] w (fun k hk => by
    have hc : k = 0 ∨ k = 1 ∨ k = 2 ∨ k = 3 ∨ k = 4 ∨ k = 5 ∨ k = 6 ∨ k = 7 ∨ k = 8 ∨ k = 9 ∨ k = 10 ∨ k = 11 ∨ k = 12 ∨ k = 13 ∨ k = 14 ∨ k = 15 := by omega
    rcases hc with rfl | rfl | rfl | rfl | rfl | rfl | rfl | rfl | rfl | rfl | rfl | rfl | rfl | rfl | rfl | rfl <;> exact ⟨_, rfl⟩)
  rw [e42]
  rfl
theorem eq_chip (c : Ch) (h : c.ok) (w : World) : (Op.equalIn 10000 44 (.agg c.cells.toArray) (.agg c.cells.toArray)).run Try.prog w = .ok true w := by
  obtain ⟨r0, r1, r2, r3, r4, r5, r6, r7, r8, r9, r10, r11, r12, r13, r14, r15, hRR⟩ := sixteen h.len
  unfold Ch.cells
  rw [hRR]
  exact eq_chip0 r0 r1 r2 r3 r4 r5 r6 r7 r8 r9 r10 r11 r12 r13 r14 r15 _ _ _ _ _ _ _ w
end Go.Proofs.Ytpihjhfaeloapaa
