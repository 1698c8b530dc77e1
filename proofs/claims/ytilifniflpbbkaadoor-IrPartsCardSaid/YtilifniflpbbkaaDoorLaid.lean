/- What the condition on the listed variable gives: the table of signs. -/
import Derived.Test.YtilifniflpbbkaaDoorHn
import Derived.ProofKit
import Derived.LaidMore
import Derived.OpenShut
import Derived.Stop.Joined
namespace Go.Proofs.YtilifniflpbbkaaDoor
open Go.ChangeShapes Go.WideShapes Go.ChangeAt Go.WideMaps Go.WideElems Go.RowKit
theorem gBins : Tryd.prog.globalNamed "taciturn/taciturnhand.bins" = some 0 := by kernel_rfl
theorem tBins : (Tryd.prog.globals[0]?).map (·.type) = some 69 := by kernel_rfl
theorem bins_of {W : World} (h : laidMetH Tryd.prog Rows.irNodesRow.laid W) : Bins W := by
  rw [MakeChecks.laidMetH_plain _ _ _ (by kernel_rfl)] at h
  obtain ⟨ps, ⟨g0, t0, cs0, f0, p0, q0, hg0, ht0, hv0, hd0, _, _⟩, _, _⟩ := h
  obtain rfl := Option.some.inj (gBins.symm.trans hg0)
  obtain rfl := Option.some.inj (tBins.symm.trans ht0)
  obtain ⟨xs, m1, rfl, hx1, hlen, hn3, hel⟩ := DataW.trod_array Tryd.underlying69 hd0
  have c3 : Tryd.prog.cellsOf 3 = 1 := by kernel_rfl
  intro k hk
  have hk' : k < xs.length := by omega
  have h := hel k hk
  rw [c3, Nat.mul_one, List.getElem?_eq_getElem hk'] at h
  obtain ⟨T, e1, _⟩ := DataW.trod_int Tryd.underlying3 h
  refine ⟨T, ?_⟩
  have hc := World.var?_cell hg0 hv0 k
  rw [hc, ← Array.getElem?_toList]
  have h2 : (List.take 1 (List.drop k cs0.toList))[0]? = some (.int .i64 T) := by rw [e1]; rfl
  rw [List.getElem?_take, if_pos (by omega), List.getElem?_drop, Nat.add_zero] at h2
  exact h2
end Go.Proofs.YtilifniflpbbkaaDoor
