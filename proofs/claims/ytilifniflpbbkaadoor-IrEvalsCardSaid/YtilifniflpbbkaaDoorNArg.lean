/- Raw nodes among the arguments. -/
import Derived.Test.YtilifniflpbbkaaDoorNd
import Derived.Test.YtilifniflpbbkaaDoorRows2
namespace Go.Proofs.YtilifniflpbbkaaDoor
open Go.RowKit On
theorem cells_rawnode : Tryd.prog.cellsOf 24 = 9 := by kernel_rfl
theorem cells_int1 : Tryd.prog.cellsOf 3 = 1 := by kernel_rfl
theorem cells_ints1 : Tryd.prog.cellsOf 22 = 1 := by kernel_rfl
theorem viewed_intsI {w : World} {cs : List Value} (h : Vw.Viewed Tryd.prog w 22 cs) : ∃ A c xs, cs = [.slice A (List.length xs) c] ∧ Ints .i64 w (.slice A xs.length c) xs := by
  rcases Vw.viewed_slice Tryd.underlying22 h with rfl | ⟨a, n, c, rfl, h1, h2, h3, h4⟩
  · exact ⟨none, 0, [], rfl, Ints.nil _ _⟩
  · obtain ⟨xs, g1, g2, g3, g4⟩ := Vw.viewed_ints Tryd.underlying3 cells_int1 (cap := n) (fun i hi => h4 i (by omega))
    subst g1
    refine ⟨some a, c, xs, rfl, _, _, rfl, nofun, fun k x hx => ?_⟩
    have hk : k < xs.length := (List.getElem?_eq_some_iff.mp hx).1
    obtain ⟨b, o, s⟩ := a
    have hs := g3 (by omega); simp at hs; subst hs
    refine ⟨b, o, rfl, ?_⟩
    rw [g4 k hk, List.getD_eq_getElem?_getD, hx]
    rfl
set_option maxRecDepth 10000 in
theorem viewed_rawnode {w : World} {es : List Value} (h : Vw.Viewed Tryd.prog w 24 es) :
    ∃ (x0 x1 x2 x3 x4 x5 x6 x7 : Int) (A : Option Addr) (c : Nat) (xs : List Int), es = [.int .i64 x0, .int .i64 x1, .int .i64 x2, .int .i64 x3, .int .i64 x4, .int .i64 x5, .int .i64 x6, .int .i64 x7, .slice A xs.length c] ∧ Ints .i64 w (.slice A xs.length c) xs := by
  obtain ⟨hl, hf⟩ := Vw.viewed_struct Tryd.underlying24 h
  rw [cells_rawnode] at hl
  have f0 : Vw.Viewed Tryd.prog w 3 ((es.drop 0).take (Tryd.prog.cellsOf 3)) := hf 0 _ rfl
  have f1 : Vw.Viewed Tryd.prog w 3 ((es.drop 1).take (Tryd.prog.cellsOf 3)) := hf 1 _ rfl
  have f2 : Vw.Viewed Tryd.prog w 3 ((es.drop 2).take (Tryd.prog.cellsOf 3)) := hf 2 _ rfl
  have f3 : Vw.Viewed Tryd.prog w 3 ((es.drop 3).take (Tryd.prog.cellsOf 3)) := hf 3 _ rfl
  have f4 : Vw.Viewed Tryd.prog w 3 ((es.drop 4).take (Tryd.prog.cellsOf 3)) := hf 4 _ rfl
  have f5 : Vw.Viewed Tryd.prog w 3 ((es.drop 5).take (Tryd.prog.cellsOf 3)) := hf 5 _ rfl
  have f6 : Vw.Viewed Tryd.prog w 3 ((es.drop 6).take (Tryd.prog.cellsOf 3)) := hf 6 _ rfl
  have f7 : Vw.Viewed Tryd.prog w 3 ((es.drop 7).take (Tryd.prog.cellsOf 3)) := hf 7 _ rfl
  have f8 : Vw.Viewed Tryd.prog w 22 ((es.drop 8).take (Tryd.prog.cellsOf 22)) := hf 8 _ rfl
  rw [cells_int1] at f0 f1 f2 f3 f4 f5 f6 f7
  rw [cells_ints1] at f8
  obtain ⟨n0, e0, _⟩ := Vw.viewed_int Tryd.underlying3 f0
  obtain ⟨n1, e1, _⟩ := Vw.viewed_int Tryd.underlying3 f1
  obtain ⟨n2, e2, _⟩ := Vw.viewed_int Tryd.underlying3 f2
  obtain ⟨n3, e3, _⟩ := Vw.viewed_int Tryd.underlying3 f3
  obtain ⟨n4, e4, _⟩ := Vw.viewed_int Tryd.underlying3 f4
  obtain ⟨n5, e5, _⟩ := Vw.viewed_int Tryd.underlying3 f5
  obtain ⟨n6, e6, _⟩ := Vw.viewed_int Tryd.underlying3 f6
  obtain ⟨n7, e7, _⟩ := Vw.viewed_int Tryd.underlying3 f7
  obtain ⟨A, c, xs, e8, hI⟩ := viewed_intsI f8
  match es, hl with
  | [a0, a1, a2, a3, a4, a5, a6, a7, a8], _ =>
    simp at e0 e1 e2 e3 e4 e5 e6 e7 e8
    subst e0; subst e1; subst e2; subst e3; subst e4; subst e5; subst e6; subst e7; subst e8
    exact ⟨_, _, _, _, _, _, _, _, A, c, xs, rfl, hI⟩
theorem arg_rawnode {w : World} {v : Value} (u : Vw.Arg Tryd.prog w 24 v) : ∃ (x0 x1 x2 x3 x4 x5 x6 x7 : Int) (A : Option Addr) (c : Nat) (xs : List Int), v = .agg #[.int .i64 x0, .int .i64 x1, .int .i64 x2, .int .i64 x3, .int .i64 x4, .int .i64 x5, .int .i64 x6, .int .i64 x7, .slice A xs.length c] ∧ Ints .i64 w (.slice A xs.length c) xs := by
  obtain ⟨cs, rfl, _, _⟩ := Vw.Arg.struct Tryd.underlying24 u
  obtain ⟨x0, x1, x2, x3, x4, x5, x6, x7, A, c, xs, e, hI⟩ := viewed_rawnode u.1
  have e : cs.toList = _ := e
  exact ⟨x0, x1, x2, x3, x4, x5, x6, x7, A, c, xs, by rw [← Array.toArray_toList (xs := cs), e], hI⟩
end Go.Proofs.YtilifniflpbbkaaDoor
