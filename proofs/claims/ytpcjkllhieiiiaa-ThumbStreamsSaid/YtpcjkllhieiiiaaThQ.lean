/- ref14.forms of any number. -/
import Derived.Test.YtpcjkllhieiiiaaThP
import Derived.Test.YtpcjkllhieiiiaaThO
import Derived.Test.YtpcjkllhieiiiaaTh6
namespace Go.Proofs.Ytpcjkllhieiiiaa
open Go.RowKit On Th
def FormAt (op : Int) (w : World) (e : Ending) (w' : World) : Prop :=
  (match formOf op with
   | none => e = .returned (.tuple #[.agg #[.bool false, .bool false, .bool false, .int .i64 0, .int .i64 0, .int .i64 0], .bool false])
   | some f => e = .returned (.tuple #[.agg #[.bool f.d, .bool f.n, .bool f.m, .int .i64 f.least, .int .i64 f.most, .int .i64 f.step], .bool true])) ∧ Below w.heap.size w w'
theorem formAt_some {op : Int} {f : Fm} (h : formOf op = some f) {w : World} {e : Ending} {w' : World} (r : e = .returned (.tuple #[.agg #[.bool f.d, .bool f.n, .bool f.m, .int .i64 f.least, .int .i64 f.most, .int .i64 f.step], .bool true]) ∧ Below w.heap.size w w') : FormAt op w e w' := by unfold FormAt; rw [h]; exact r
theorem formAt_none {op : Int} (h : formOf op = none) {w : World} {e : Ending} {w' : World} (r : e = .returned (.tuple #[.agg #[.bool false, .bool false, .bool false, .int .i64 0, .int .i64 0, .int .i64 0], .bool false]) ∧ Below w.heap.size w w') : FormAt op w e w' := by unfold FormAt; rw [h]; exact r
theorem forms_c (op : Int) (w : World) : Calls Try.prog 26 #[.int .i64 op] w (FormAt op w) := by
  by_cases e1 : op = 1
  · subst e1; exact (forms_1 w).mono fun e w' h => formAt_some (f := ⟨true, false, true, 0, 31, 1⟩) rfl h
  by_cases e2 : op = 2
  · subst e2; exact (forms_2 w).mono fun e w' h => formAt_some (f := ⟨true, false, true, 1, 32, 1⟩) rfl h
  by_cases e3 : op = 3
  · subst e3; exact (forms_3 w).mono fun e w' h => formAt_some (f := ⟨true, false, true, 1, 32, 1⟩) rfl h
  by_cases e4 : op = 4
  · subst e4; exact (forms_4 w).mono fun e w' h => formAt_some (f := ⟨true, true, true, 0, 0, 1⟩) rfl h
  by_cases e5 : op = 5
  · subst e5; exact (forms_5 w).mono fun e w' h => formAt_some (f := ⟨true, true, true, 0, 0, 1⟩) rfl h
  by_cases e29 : op = 29
  · subst e29; exact (forms_29 w).mono fun e w' h => formAt_some (f := ⟨true, true, true, 0, 0, 1⟩) rfl h
  by_cases e30 : op = 30
  · subst e30; exact (forms_30 w).mono fun e w' h => formAt_some (f := ⟨true, true, true, 0, 0, 1⟩) rfl h
  by_cases e6 : op = 6
  · subst e6; exact (forms_6 w).mono fun e w' h => formAt_some (f := ⟨true, true, false, 0, 7, 1⟩) rfl h
  by_cases e7 : op = 7
  · subst e7; exact (forms_7 w).mono fun e w' h => formAt_some (f := ⟨true, true, false, 0, 7, 1⟩) rfl h
  by_cases e31 : op = 31
  · subst e31; exact (forms_31 w).mono fun e w' h => formAt_some (f := ⟨true, true, false, 0, 124, 4⟩) rfl h
  by_cases e32 : op = 32
  · subst e32; exact (forms_32 w).mono fun e w' h => formAt_some (f := ⟨true, true, false, 0, 124, 4⟩) rfl h
  by_cases e33 : op = 33
  · subst e33; exact (forms_33 w).mono fun e w' h => formAt_some (f := ⟨true, true, false, 0, 31, 1⟩) rfl h
  by_cases e34 : op = 34
  · subst e34; exact (forms_34 w).mono fun e w' h => formAt_some (f := ⟨true, true, false, 0, 31, 1⟩) rfl h
  by_cases e35 : op = 35
  · subst e35; exact (forms_35 w).mono fun e w' h => formAt_some (f := ⟨true, false, false, 0, 1020, 4⟩) rfl h
  by_cases e36 : op = 36
  · subst e36; exact (forms_36 w).mono fun e w' h => formAt_some (f := ⟨true, false, false, 0, 1020, 4⟩) rfl h
  by_cases e37 : op = 37
  · subst e37; exact (forms_37 w).mono fun e w' h => formAt_some (f := ⟨false, false, false, 0, 508, 4⟩) rfl h
  by_cases e38 : op = 38
  · subst e38; exact (forms_38 w).mono fun e w' h => formAt_some (f := ⟨false, false, false, 0, 508, 4⟩) rfl h
  by_cases e39 : op = 39
  · subst e39; exact (forms_39 w).mono fun e w' h => formAt_some (f := ⟨false, false, false, 1, 511, 1⟩) rfl h
  by_cases e40 : op = 40
  · subst e40; exact (forms_40 w).mono fun e w' h => formAt_some (f := ⟨false, false, false, 1, 511, 1⟩) rfl h
  by_cases e41 : op = 41
  · subst e41; exact (forms_41 w).mono fun e w' h => formAt_some (f := ⟨false, false, false, (-256), 254, 2⟩) rfl h
  by_cases e42 : op = 42
  · subst e42; exact (forms_42 w).mono fun e w' h => formAt_some (f := ⟨false, false, false, (-2048), 2046, 2⟩) rfl h
  by_cases e43 : op = 43
  · subst e43; exact (forms_43 w).mono fun e w' h => formAt_some (f := ⟨false, false, false, (-16777216), 16777214, 2⟩) rfl h
  by_cases e44 : op = 44
  · subst e44; exact (forms_44 w).mono fun e w' h => formAt_some (f := ⟨false, false, false, 0, 255, 1⟩) rfl h
  by_cases e45 : op = 45
  · subst e45; exact (forms_45 w).mono fun e w' h => formAt_some (f := ⟨false, false, false, 0, 0, 0⟩) rfl h
  by_cases eA : 12 ≤ op ∧ op ≤ 27
  · exact (forms_and op eA.1 eA.2 w).mono fun e w' h => formAt_some (f := ⟨true, false, true, 0, 0, 1⟩) (by unfold formOf; rw [if_pos eA]) h
  by_cases eM : 8 ≤ op ∧ op ≤ 11
  · exact (forms_mov op eM.1 eM.2 w).mono fun e w' h => formAt_some (f := ⟨true, false, false, 0, 255, 1⟩) (by unfold formOf; rw [if_neg eA, if_pos eM]) h
  have hn : formOf op = none := by simp [formOf, eA, eM, e1, e2, e3, e4, e5, e29, e30, e6, e7, e31, e32, e33, e34, e35, e36, e37, e38, e39, e40, e41, e42, e43, e44, e45]
  rcases (show op < 8 ∨ 27 < op by omega) with h | h
  · exact (forms_none_lo op e1 e2 e3 e4 e5 e29 e30 e6 e7 e31 e32 e33 e34 e35 e36 e37 e38 e39 e40 e41 e42 e43 e44 e45 h w).mono fun e w' h => formAt_none hn h
  · exact (forms_none_hi op e1 e2 e3 e4 e5 e29 e30 e6 e7 e31 e32 e33 e34 e35 e36 e37 e38 e39 e40 e41 e42 e43 e44 e45 h w).mono fun e w' h => formAt_none hn h
end Go.Proofs.Ytpcjkllhieiiiaa
