/- law17's must: what MustBranch does with a node. -/
import Derived.Test.YtilifniflpbbkaaIrK
import Derived.Defers
import Derived.Recover
import Derived.Laws.Pointers
namespace Go.Proofs.Ytilifniflpbbkaa
open Go.RowKit On
theorem mustBranch_is (c t : Int) (w : World) : Calls Try.prog 22 #[(Nd.branch c t).val] w fun e w' => e = .returned (.agg #[.int .i64 c, .int .i64 t]) ∧ Below w.heap.size w w' := by
  have hta : ∀ w, (Instr.typeAssert (.iface 29 (.agg #[.int .i64 c, .int .i64 t])) 64 29 false).run Try.prog w = .ok (.agg #[.int .i64 c, .int .i64 t]) w := fun w => by
    simp [Instr.typeAssert, run_underlying Try.underlying29]
  dsimp only [Nd.val]
  go_enter Try.func22, Try.ntmps22
  go_wp2_with fail
  refine bodyPost_ret (results_cell_row rfl _ _ w.heap.size 29 _ (0, 0) _ (by rfl) (Blk.new w _ _) Try.underlying29 rfl (by rfl)) rfl ?_
  exact ⟨rfl, (Below.refl _ _).alloc (Nat.le_refl _) _⟩
theorem ta_fails (u : TypeId) (v : Value) (hu : ¬ u = 29) : ∃ (T : TypeId) (o : Obj), ∀ w, (Instr.typeAssert (.iface u v) 64 29 false).run Try.prog w = .halt (.panic (.iface T (.pointer (some ⟨w.heap.size, 0, none⟩)))) (w.alloc o) := by
  refine ⟨Try.prog.rt.typeAssertionError, ?_, fun w => ?_⟩
  rotate_left
  · simp [Instr.typeAssert, run_underlying Try.underlying29, hu, runtimePanic, go_sem, elemOf, newVar]
    rfl
theorem tn_fails : ∃ (T : TypeId) (o : Obj), ∀ w, (Instr.typeAssert .nilIface 64 29 false).run Try.prog w = .halt (.panic (.iface T (.pointer (some ⟨w.heap.size, 0, none⟩)))) (w.alloc o) := by
  refine ⟨Try.prog.rt.typeAssertionError, ?_, fun w => ?_⟩
  rotate_left
  · simp [Instr.typeAssert, run_underlying Try.underlying29, runtimePanic, go_sem, elemOf, newVar]
    rfl
def isBranch : Nd → Bool
  | .branch _ _ => true
  | _ => false
theorem no_branch {n : Nd} (h : isBranch n = false) : ∃ (T : TypeId) (o : Obj), ∀ w, (Instr.typeAssert n.val 64 29 false).run Try.prog w = .halt (.panic (.iface T (.pointer (some ⟨w.heap.size, 0, none⟩)))) (w.alloc o) := by
  cases n <;> first | exact tn_fails | exact ta_fails _ _ (by decide) | cases h
/-- MustBranch of what is none panics -/
def Panics (w : World) (e : Ending) (w' : World) : Prop := (∃ T pv, e = .panicked [{ v := .iface T pv, recovered := false }]) ∧ Below w.heap.size w w'
theorem mustBranch_no {n : Nd} (h : isBranch n = false) (w : World) : Calls Try.prog 22 #[n.val] w (Panics w) := by
  obtain ⟨T, o, hta⟩ := no_branch h
  generalize n.val = nv at *
  go_enter Try.func22, Try.ntmps22
  go_wp2_with fail
  exact ⟨rfl, ⟨_, _, rfl⟩, ((Below.refl _ _).alloc (Nat.le_refl _) _).alloc (by simp) _⟩
theorem catch_panicking (p : Addr) (x : Int) (u : TypeId) (pv : Value) (older : List PanicEntry) (w : World) (hc : w.cell? p = some (.int .i64 x)) (hz : w.frozen? p = false) :
    CallsD Try.prog 21 #[.pointer (some p)] (.panicking ({ v := .iface u pv, recovered := false } :: older)) w fun e u' w' =>
      e = .returned (.tuple #[]) ∧ u' = .panicking ({ v := .iface u pv, recovered := true } :: older) ∧ w' = w.setCell p (.int .i64 2) := by
  refine callsD_of_wpS Try.func21 rfl fun c₀ cs hu => ?_
  apply wpS_seq
  apply wpS_region
  simp [wpOpsS, go_sem, recoverD, hu, Try.ntmps21, Exit.thenS]
  refine wpS_cond (t := true) (by simp [Act.eval, Array.replicate]) ?_
  simp only [if_true]
  apply wpS_region
  simp [wpOpsS, go_sem, hc, hz, bodyPostS, results, Try.results21]
theorem catch_idle (p : Addr) (w : World) :
    CallsD Try.prog 21 #[.pointer (some p)] .returning w fun e u' w' => e = .returned (.tuple #[]) ∧ u' = .returning ∧ w' = w := by
  refine callsD_of_wpS Try.func21 rfl fun c₀ cs hu => ?_
  apply wpS_seq
  apply wpS_region
  simp [wpOpsS, go_sem, recoverD, hu, Try.ntmps21, Exit.thenS]
  refine wpS_cond (t := false) (by simp [Act.eval, Array.replicate]) ?_
  simp only [Bool.false_eq_true, if_false]
  refine wpS_of_wp (wp_skip ?_)
  cases c₀
  simp_all [bodyPostS, results, Try.results21]
theorem must_no {n : Nd} (h : isBranch n = false) (w : World) : Calls Try.prog 11 #[n.val] w fun e w' => e = .returned (.int .i64 2) ∧ Below w.heap.size w w' := by
  have hmf : ∀ (fn : Fn) (first cap : Array Value) (w : World), (Instr.makeFunc fn first cap).run Try.prog w = .ok (.func fn first cap) w := fun _ _ _ _ => rfl
  have HM := Lib.hid (fun w => mustBranch_no h w)
  have HB0 : Hid (Below w.heap.size w (w.alloc (.cells #[.int .i64 0] 3))) := (Below.refl _ _).alloc (Nat.le_refl _) _
  have KR := Lib.hid (Blk.new w 3 #[.int .i64 0])
  generalize n.val = nv at *
  go_enter_defers Try.func11, Try.ntmps11
  go_wp2_with fail
  refine (HM.out _).mono ?_
  rintro e w2 ⟨⟨T, pv, rfl⟩, hb⟩
  have HB2 := Lib.hid (HB0.out.trans (hb.mono HB0.out.size))
  have k2 := KR.out.only (S := fun _ => False) (Only.of_below hb) id
  have hc := k2.cell 0
  have hz := k2.frozen 0
  simp at hc
  clear hb HB0 KR HM
  go_wp2_with fail
  refine leaves_cons (f := 21) (args := #[.pointer (some ⟨w.heap.size, 0, none⟩)]) (by simp) (by simp [go_sem]) ?_
  refine (catch_panicking ⟨w.heap.size, 0, none⟩ 0 T pv [] _ hc hz).mono ?_
  rintro e u' w'' ⟨rfl, rfl, rfl⟩
  have k3 := (k2.set 0 (.int .i64 2)).cell 0
  simp at k3
  simp [Leaves, settle, results, Try.results11, go_sem, k3]
  exact HB2.out.setCell (p := ⟨w.heap.size, 0, none⟩) (Nat.le_refl _) _
theorem must_yes (c t : Int) (heq : ∀ w, (binOp .eql 64 (.iface 29 (.agg #[.int .i64 c, .int .i64 t])) (.iface 29 (.agg #[.int .i64 c, .int .i64 t]))).run Try.prog w = .ok (.bool true) w) (w : World) : Calls Try.prog 11 #[(Nd.branch c t).val] w fun e w' => e = .returned (.int .i64 1) ∧ Below w.heap.size w w' := by
  have hmf : ∀ (fn : Fn) (first cap : Array Value) (w : World), (Instr.makeFunc fn first cap).run Try.prog w = .ok (.func fn first cap) w := fun _ _ _ _ => rfl
  have HM := Lib.hid (fun w => mustBranch_is c t w)
  have HB0 : Hid (Below w.heap.size w (w.alloc (.cells #[.int .i64 0] 3))) := (Below.refl _ _).alloc (Nat.le_refl _) _
  have KR := Lib.hid (Blk.new w 3 #[.int .i64 0])
  dsimp only [Nd.val] at HM ⊢
  go_enter_defers Try.func11, Try.ntmps11
  go_wp2_with fail
  refine (HM.out _).mono ?_
  rintro e w2 ⟨rfl, hb⟩
  have HB2 := Lib.hid (HB0.out.trans (hb.mono HB0.out.size))
  have k2 := KR.out.only (S := fun _ => False) (Only.of_below hb) id
  have hc := k2.cell 0
  have hz := k2.frozen 0
  simp at hc
  have hlt := k2.lt
  clear hb HB0 KR HM
  go_wp2_with fail
  refine leaves_cons (f := 21) (args := #[.pointer (some ⟨w.heap.size, 0, none⟩)]) (by simp) (by simp [go_sem]) ?_
  refine (catch_idle ⟨w.heap.size, 0, none⟩ _).mono ?_
  rintro e u' w'' ⟨rfl, rfl, rfl⟩
  have k3 := ((k2.set 0 (.int .i64 1)).alloc (.cells #[.int .i64 c, .int .i64 t] 29)).cell 0
  simp at k3
  simp [Leaves, settle, results, Try.results11, go_sem, k3]
  exact (HB2.out.setCell (p := ⟨w.heap.size, 0, none⟩) (Nat.le_refl _) _).alloc (by have := HB2.out.size; simpa using this) _
theorem must_00 (w : World) : Calls Try.prog 11 #[(Nd.branch 0 0).val] w fun e w' => e = .returned (.int .i64 1) ∧ Below w.heap.size w w' := must_yes 0 0 (fun w => by kernel_rfl) w
theorem must_03 (w : World) : Calls Try.prog 11 #[(Nd.branch 0 3).val] w fun e w' => e = .returned (.int .i64 1) ∧ Below w.heap.size w w' := must_yes 0 3 (fun w => by kernel_rfl) w
end Go.Proofs.Ytilifniflpbbkaa
