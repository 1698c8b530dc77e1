/- Arguments of law14's statements; ThumbApart. -/
import Derived.Test.YtpcjkllhieiiiaaThV
import Derived.Test.YtpcjkllhieiiiaaThS
import Derived.Test.YtpcjkllhieiiiaaTh10
import Derived.Test.YtpcjkllhieiiiaaView
import Derived.StillTailTactics
namespace Go.Proofs.Ytpcjkllhieiiiaa
open Go.RowKit On Th
theorem cells_raw : Try.prog.cellsOf 23 = 6 := by kernel_rfl
theorem cells_int1 : Try.prog.cellsOf 3 = 1 := by kernel_rfl
theorem cells_u16 : Try.prog.cellsOf 37 = 1 := by kernel_rfl
theorem viewed_raw {w : World} {es : List Value} (h : Vw.Viewed Try.prog w 23 es) :
    ∃ x0 x1 x2 x3 x4 x5 : Int, es = [.int .i64 x0, .int .i64 x1, .int .i64 x2, .int .i64 x3, .int .i64 x4, .int .i64 x5] := by
  obtain ⟨hl, hf⟩ := Vw.viewed_struct Try.underlying23 h
  rw [cells_raw] at hl
  have f0 : Vw.Viewed Try.prog w 3 ((es.drop 0).take (Try.prog.cellsOf 3)) := hf 0 _ rfl
  have f1 : Vw.Viewed Try.prog w 3 ((es.drop 1).take (Try.prog.cellsOf 3)) := hf 1 _ rfl
  have f2 : Vw.Viewed Try.prog w 3 ((es.drop 2).take (Try.prog.cellsOf 3)) := hf 2 _ rfl
  have f3 : Vw.Viewed Try.prog w 3 ((es.drop 3).take (Try.prog.cellsOf 3)) := hf 3 _ rfl
  have f4 : Vw.Viewed Try.prog w 3 ((es.drop 4).take (Try.prog.cellsOf 3)) := hf 4 _ rfl
  have f5 : Vw.Viewed Try.prog w 3 ((es.drop 5).take (Try.prog.cellsOf 3)) := hf 5 _ rfl
  rw [cells_int1] at f0 f1 f2 f3 f4 f5
  obtain ⟨n0, e0, _⟩ := Vw.viewed_int Try.underlying3 f0
  obtain ⟨n1, e1, _⟩ := Vw.viewed_int Try.underlying3 f1
  obtain ⟨n2, e2, _⟩ := Vw.viewed_int Try.underlying3 f2
  obtain ⟨n3, e3, _⟩ := Vw.viewed_int Try.underlying3 f3
  obtain ⟨n4, e4, _⟩ := Vw.viewed_int Try.underlying3 f4
  obtain ⟨n5, e5, _⟩ := Vw.viewed_int Try.underlying3 f5
  match es, hl with
  | [a, b, c', d, e, f], _ =>
    simp at e0 e1 e2 e3 e4 e5
    subst e0; subst e1; subst e2; subst e3; subst e4; subst e5
    exact ⟨_, _, _, _, _, _, rfl⟩
theorem arg_raw {w : World} {v : Value} (u : Vw.Arg Try.prog w 23 v) : ∃ x0 x1 x2 x3 x4 x5 : Int, v = .agg #[.int .i64 x0, .int .i64 x1, .int .i64 x2, .int .i64 x3, .int .i64 x4, .int .i64 x5] := by
  obtain ⟨cs, rfl, _, _⟩ := Vw.Arg.struct Try.underlying23 u
  obtain ⟨x0, x1, x2, x3, x4, x5, e⟩ := viewed_raw u.1
  have e : cs.toList = _ := e
  exact ⟨x0, x1, x2, x3, x4, x5, by rw [← Array.toArray_toList (xs := cs), e]⟩
/-- halfwords that Encode gave -/
theorem HalfAt.hw {hs : List Int} {w : World} {e : Ending} {w' : World} (h : HalfAt hs w e w') (hr : ∀ x ∈ hs, 0 ≤ x ∧ x < 65536) : ∃ s, e = .returned (.tuple #[s, .int .i64 0]) ∧ Hw w' s hs ∧ Below w.heap.size w w' := by
  obtain ⟨g, h1, h2, h3⟩ := h
  refine ⟨_, h1, ⟨_, hs.length, rfl, fun k x hx => ?_⟩, h3⟩
  obtain ⟨r1, r2⟩ := hr x (List.mem_of_getElem? hx)
  refine ⟨r1, r2, g, 0, rfl, ?_⟩
  rw [h2.cell (0 + k)]
  simp [hx]
end Go.Proofs.Ytpcjkllhieiiiaa
