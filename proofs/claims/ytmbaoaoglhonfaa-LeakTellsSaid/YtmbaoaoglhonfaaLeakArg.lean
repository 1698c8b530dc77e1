/- Arguments of LeakTells. -/
import Derived.Test.YtmbaoaoglhonfaaLeakTells
namespace Go.Proofs.Ytmbaoaoglhonfaa
open Go.RowKit On
theorem arg_int {w : World} {v : Value} (h : Vw.Arg Try.prog w 3 v) : ∃ n, v = .int .i64 n ∧ -9223372036854775808 ≤ n ∧ n ≤ 9223372036854775807 := by
  obtain ⟨n, rfl, hw⟩ := h.int Try.underlying3
  simp [Lit.wf, IntKind.min, IntKind.max, IntKind.signed, IntKind.bits] at hw
  exact ⟨n, rfl, by omega, by omega⟩
theorem cells_ev : Try.prog.cellsOf 28 = 4 := by kernel_rfl
theorem cells_int : Try.prog.cellsOf 3 = 1 := by kernel_rfl
theorem int_wf {x : Int} (h : (Lit.int .i64 x).wf = true) : -9223372036854775808 ≤ x ∧ x ≤ 9223372036854775807 := by
  simp [Lit.wf, IntKind.min, IntKind.max, IntKind.signed, IntKind.bits] at h; omega
/-- an event that is viewed -/
theorem viewed_ev {w : World} {es : List Value} (h : Vw.Viewed Try.prog w 28 es) : ∃ x : Ev, es = x.cells ∧ -9223372036854775808 ≤ x.b ∧ x.b ≤ 9223372036854775807 := by
  obtain ⟨hl, hf⟩ := Vw.viewed_struct Try.underlying28 h
  rw [cells_ev] at hl
  have f0 : Vw.Viewed Try.prog w 3 ((es.drop 0).take (Try.prog.cellsOf 3)) := hf 0 _ rfl
  have f1 : Vw.Viewed Try.prog w 3 ((es.drop 1).take (Try.prog.cellsOf 3)) := hf 1 _ rfl
  have f2 : Vw.Viewed Try.prog w 3 ((es.drop 2).take (Try.prog.cellsOf 3)) := hf 2 _ rfl
  have f3 : Vw.Viewed Try.prog w 3 ((es.drop 3).take (Try.prog.cellsOf 3)) := hf 3 _ rfl
  rw [cells_int] at f0 f1 f2 f3
  obtain ⟨n0, e0, _⟩ := Vw.viewed_int Try.underlying3 f0
  obtain ⟨n1, e1, _⟩ := Vw.viewed_int Try.underlying3 f1
  obtain ⟨n2, e2, hw⟩ := Vw.viewed_int Try.underlying3 f2
  obtain ⟨n3, e3, _⟩ := Vw.viewed_int Try.underlying3 f3
  match es, hl with
  | [a, b, c, d], _ =>
    simp at e0 e1 e2 e3
    subst e0; subst e1; subst e2; subst e3
    exact ⟨⟨_, _, _, _⟩, rfl, int_wf hw⟩
/-- an argument that is a slice of events -/
theorem arg_evs {w : World} {v : Value} (h : Vw.Arg Try.prog w 33 v) : ∃ A n c xs, v = .slice A n c ∧ Evs w A n xs ∧ n ≤ c := by
  rcases h.slice Try.underlying33 with rfl | ⟨a, n, c, rfl, h1, h2, h3, h4⟩
  · exact ⟨none, 0, 0, [], rfl, ⟨rfl, by simp, fun _ => rfl, fun b o s i hi => by simp at hi⟩, Nat.le_refl _⟩
  · rw [cells_ev] at h4
    have h5 : ∀ m, m ≤ n → ∃ xs : List Ev, xs.length = m ∧ (∀ x ∈ xs, -9223372036854775808 ≤ x.b ∧ x.b ≤ 9223372036854775807) ∧ ∀ i (hi : i < xs.length), w.cells? 0 (a.add (i * 4)) 4 = some (xs[i]'hi).cells := by
      intro m
      induction m with
      | zero => intro _; exact ⟨[], rfl, by simp, fun i hi => by simp at hi⟩
      | succ m ih =>
        intro hm
        obtain ⟨xs, g1, g2, g3⟩ := ih (by omega)
        obtain ⟨es, g4, g5⟩ := h4 m (by omega)
        obtain ⟨x, rfl, g6⟩ := viewed_ev g5
        refine ⟨xs ++ [x], by simp [g1], ?_, ?_⟩
        · intro y hy
          rcases List.mem_append.mp hy with hy | hy
          · exact g2 y hy
          · simp at hy; subst hy; exact g6
        · intro i hi
          by_cases e : i < xs.length
          · rw [List.getElem_append_left e]; exact g3 i e
          · have : i = m := by simp at hi; omega
            subst this
            rw [List.getElem_append_right (by omega)]
            simp only [g1, Nat.sub_self, List.getElem_cons_zero]; exact g4
    obtain ⟨xs, g1, g2, g3⟩ := h5 n (Nat.le_refl _)
    refine ⟨some a, n, c, xs, rfl, ⟨g1, g2, by simp, ?_⟩, h1⟩
    rintro b o s i hi hA
    injection hA with hA; subst hA
    have k := (Vw.cells_at (g3 i hi)).2
    have k0 := k 0 (by omega)
    rw [Vw.add_zero] at k0
    have hs : s = none := by
      by_cases e : i * 4 = 0
      · have := World.cell?_spot (k0.trans (by simp [Ev.cells]; rfl)); rw [e, Vw.add_zero] at this; exact this
      · have k00 := (Vw.cells_at (g3 0 (by omega))).2 0 (by omega)
        rw [Vw.add_zero, Nat.zero_mul, Vw.add_zero] at k00
        exact World.cell?_spot (k00.trans (by simp [Ev.cells]; rfl))
    subst hs
    simp only [Vw.add_none] at k
    have q0 := k 0 (by omega); have q1 := k 1 (by omega); have q2 := k 2 (by omega); have q3 := k 3 (by omega)
    simp [Ev.cells] at q0 q1 q2 q3
    exact ⟨rfl, World.block_lt_of_cell? w ⟨b, _, none⟩ q0, q0, q1, q2, q3⟩
theorem leakTells_top (v0 v1 v2 v3 v4 : Value) (w : World) (u0 : Vw.Arg Try.prog w 33 v0) (u1 : Vw.Arg Try.prog w 33 v1) (u2 : Vw.Arg Try.prog w 3 v2) (u3 : Vw.Arg Try.prog w 3 v3) (u4 : Vw.Arg Try.prog w 4 v4) :
    Calls Try.prog 4 #[v0, v1, v2, v3, v4] w fun e w' => e = .returned (.bool true) ∧ Below w.heap.size w w' := by
  obtain ⟨A, n, c, xs, rfl, hx, hn⟩ := arg_evs u0
  obtain ⟨B, m, d, ys, rfl, hy, hm⟩ := arg_evs u1
  obtain ⟨t, rfl, _⟩ := arg_int u2
  obtain ⟨b, rfl, hb1, hb2⟩ := arg_int u3
  obtain ⟨s, rfl⟩ := u4.bool Try.underlying4
  exact leakTells_walk A B n c m d xs ys t b s w hx hy hb1 hb2 hn hm
end Go.Proofs.Ytmbaoaoglhonfaa
