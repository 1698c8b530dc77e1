/- A slice whose elements are rows of cells, read out of an argument. No program in sight. -/
import Derived.Test.YtilifniflpbbkaaDoorView
import Derived.Test.YtilifniflpbbkaaDoorOnly
namespace Go.Proofs.Vw
open Go.RowKit Go.Proofs.On
/-- n rows of k cells each, from an address on -/
structure RowsOf (w : World) (A : Option Addr) (n k : Nat) (R : List Value → Prop) : Prop where
  none_ : A = none → n = 0
  cell : ∀ b o s i, A = some ⟨b, o, s⟩ → i < n → s = none ∧ b < w.heap.size ∧ ∃ es, es.length = k ∧ R es ∧ ∀ j, j < k → w.cell? ⟨b, o + i * k + j, none⟩ = es[j]?
section
variable {P : Program} {w : World} {t e : TypeId} {v : Value} {k : Nat}
theorem rows_of (hk : 0 < k) {a : Addr} {n : Nat} (h : ∀ i, i < n → ∃ es, w.cells? 0 (a.add (i * k)) k = some es ∧ Viewed P w e es) : RowsOf w (some a) n k (Viewed P w e) := by
  refine ⟨nofun, ?_⟩
  rintro b o s i hA hi
  injection hA with hA; subst hA
  obtain ⟨es, h1, h2⟩ := h i hi
  obtain ⟨h3, h4⟩ := cells_at h1
  have hs : s = none := by
    by_cases e : i * k = 0
    · have k0 := h4 0 hk
      rw [e, add_zero, add_zero] at k0
      rw [List.getElem?_eq_getElem (by omega)] at k0
      exact World.cell?_spot k0
    · obtain ⟨es', g1, _⟩ := h 0 (by omega)
      obtain ⟨g3, g4⟩ := cells_at g1
      have k0 := g4 0 hk
      rw [Nat.zero_mul, add_zero, add_zero, List.getElem?_eq_getElem (by omega)] at k0
      exact World.cell?_spot k0
  subst hs
  simp only [add_none] at h4
  refine ⟨rfl, ?_, es, h3, h2, h4⟩
  have k0 := h4 0 hk
  rw [List.getElem?_eq_getElem (by omega)] at k0
  exact World.block_lt_of_cell? w ⟨b, _, none⟩ k0
theorem Arg.rows (hu : P.underlying t = some (.slice e)) (hc : P.cellsOf e = k) (hk : 0 < k) (h : Arg P w t v) :
    ∃ A n c, v = .slice A n c ∧ n ≤ c ∧ c ≤ maxLen ∧ c * P.bytesOf e ≤ reachBytes ∧ RowsOf w A n k (Viewed P w e) := by
  rcases h.slice hu with rfl | ⟨a, n, c, rfl, h1, h2, h3, h4⟩
  · exact ⟨none, 0, 0, rfl, Nat.le_refl _, by simp [maxLen], by simp, ⟨fun _ => rfl, fun b o s i hA hi => by omega⟩⟩
  · rw [hc] at h4
    exact ⟨some a, n, c, rfl, h1, h2, h3, rows_of hk (fun i hi => h4 i (by omega))⟩
theorem viewed_rows {cs : List Value} (hu : P.underlying t = some (.slice e)) (hc : P.cellsOf e = k) (hk : 0 < k) (h : Viewed P w t cs) :
    ∃ A n c, cs = [.slice A n c] ∧ n ≤ c ∧ c ≤ maxLen ∧ c * P.bytesOf e ≤ reachBytes ∧ RowsOf w A n k (Viewed P w e) := by
  rcases viewed_slice hu h with rfl | ⟨a, n, c, rfl, h1, h2, h3, h4⟩
  · exact ⟨none, 0, 0, rfl, Nat.le_refl _, by simp [maxLen], by simp, ⟨fun _ => rfl, fun b o s i hA hi => by omega⟩⟩
  · rw [hc] at h4
    exact ⟨some a, n, c, rfl, h1, h2, h3, rows_of hk (fun i hi => h4 i (by omega))⟩
/-- a row that is one cell -/
theorem viewed_ints2 {cs : List Value} {q : IntKind} (hu : P.underlying t = some (.slice e)) (he : P.underlying e = some (.int q)) (hc : P.cellsOf e = 1) (h : Viewed P w t cs) :
    ∃ A n c xs, cs = [.slice A n c] ∧ n ≤ c ∧ c ≤ maxLen ∧ List.length xs = n ∧ (∀ x ∈ xs, (Lit.int q x).wf = true) ∧ (A = none → n = 0) ∧
      ∀ b o s i, A = some ⟨b, o, s⟩ → i < n → s = none ∧ b < w.heap.size ∧ w.cell? ⟨b, o + i, none⟩ = some (.int q (xs.getD i 0)) := by
  rcases viewed_slice hu h with rfl | ⟨a, n, c, rfl, h1, h2, h3, h4⟩
  · exact ⟨none, 0, 0, [], rfl, Nat.le_refl _, by simp [maxLen], rfl, by simp, fun _ => rfl, fun b o s i hA hi => by omega⟩
  · obtain ⟨xs, g1, g2, g3, g4⟩ := viewed_ints he hc (cap := n) (fun i hi => h4 i (by omega))
    refine ⟨some a, n, c, xs, rfl, h1, h2, g1, g2, nofun, ?_⟩
    rintro b o s i hA hi
    injection hA with hA; subst hA
    have hs := g3 (by omega); simp at hs; subst hs
    exact ⟨rfl, World.block_lt_of_cell? w ⟨b, _, none⟩ (g4 i hi), g4 i hi⟩
end
end Go.Proofs.Vw
