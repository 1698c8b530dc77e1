/- thumb.find, thumb.Right: of any number. -/
import Derived.Test.YtpihjhfaeloapaaThB1
import Derived.Test.YtpihjhfaeloapaaThB2
import Derived.Test.YtpihjhfaeloapaaThB3
import Derived.Test.YtpihjhfaeloapaaThB4
import Derived.Test.YtpihjhfaeloapaaThD
import Derived.Test.YtpihjhfaeloapaaTh3
namespace Go.Proofs.Ytpihjhfaeloapaa
open Go.RowKit On Th
/-- what find answers -/
def FindAt (op : Int) (w : World) (e : Ending) (w' : World) : Prop :=
  match rowOf op with
  | none => RowAt [] 0 0 false w e w'
  | some (b, l) => RowAt l op b true w e w'
theorem findAt_some {op b : Int} {l : List Sl} (h : rowOf op = some (b, l)) {w : World} {e : Ending} {w' : World} (r : RowAt l op b true w e w') : FindAt op w e w' := by unfold FindAt; rw [h]; exact r
theorem findAt_none {op : Int} (h : rowOf op = none) {w : World} {e : Ending} {w' : World} (r : RowAt [] 0 0 false w e w') : FindAt op w e w' := by unfold FindAt; rw [h]; exact r
theorem rowAt_nil {op b : Int} {ok : Bool} {w : World} {e : Ending} {w' : World} (h : e = .returned (.tuple #[.agg #[.int .i64 op, .int .u16 b, .slice none 0 0], .bool ok]) ∧ Below w.heap.size w w') : RowAt [] op b ok w e w' := ⟨none, h.1, .inl ⟨rfl, rfl⟩, h.2⟩
theorem find_c (op : Int) (w : World) : Calls Try.prog 72 #[.int .i64 op] w (FindAt op w) := by
  by_cases e1 : op = 1
  · subst e1; exact (find_1 w).mono fun e w' h => findAt_some (b := 0) (l := [reg 0 0, reg 2 3, im 6 5 0 31 1]) rfl (h.row [reg 0 0, reg 2 3, im 6 5 0 31 1] rfl rfl)
  by_cases e2 : op = 2
  · subst e2; exact (find_2 w).mono fun e w' h => findAt_some (b := 2048) (l := [reg 0 0, reg 2 3, im 6 5 1 32 1]) rfl (h.row [reg 0 0, reg 2 3, im 6 5 1 32 1] rfl rfl)
  by_cases e3 : op = 3
  · subst e3; exact (find_3 w).mono fun e w' h => findAt_some (b := 4096) (l := [reg 0 0, reg 2 3, im 6 5 1 32 1]) rfl (h.row [reg 0 0, reg 2 3, im 6 5 1 32 1] rfl rfl)
  by_cases e4 : op = 4
  · subst e4; exact (find_4 w).mono fun e w' h => findAt_some (b := 6144) (l := [reg 0 0, reg 1 3, reg 2 6]) rfl (h.row [reg 0 0, reg 1 3, reg 2 6] rfl rfl)
  by_cases e5 : op = 5
  · subst e5; exact (find_5 w).mono fun e w' h => findAt_some (b := 6656) (l := [reg 0 0, reg 1 3, reg 2 6]) rfl (h.row [reg 0 0, reg 1 3, reg 2 6] rfl rfl)
  by_cases e6 : op = 6
  · subst e6; exact (find_6 w).mono fun e w' h => findAt_some (b := 7168) (l := [reg 0 0, reg 1 3, reg 3 6]) rfl (h.row [reg 0 0, reg 1 3, reg 3 6] rfl rfl)
  by_cases e7 : op = 7
  · subst e7; exact (find_7 w).mono fun e w' h => findAt_some (b := 7680) (l := [reg 0 0, reg 1 3, reg 3 6]) rfl (h.row [reg 0 0, reg 1 3, reg 3 6] rfl rfl)
  by_cases e30 : op = 30
  · subst e30; exact (find_30 w).mono fun e w' h => findAt_some (b := 20480) (l := [reg 0 0, reg 1 3, reg 2 6]) rfl (h.row [reg 0 0, reg 1 3, reg 2 6] rfl rfl)
  by_cases e29 : op = 29
  · subst e29; exact (find_29 w).mono fun e w' h => findAt_some (b := 22528) (l := [reg 0 0, reg 1 3, reg 2 6]) rfl (h.row [reg 0 0, reg 1 3, reg 2 6] rfl rfl)
  by_cases e32 : op = 32
  · subst e32; exact (find_32 w).mono fun e w' h => findAt_some (b := 24576) (l := [reg 0 0, reg 1 3, im 6 5 0 124 4]) rfl (h.row [reg 0 0, reg 1 3, im 6 5 0 124 4] rfl rfl)
  by_cases e31 : op = 31
  · subst e31; exact (find_31 w).mono fun e w' h => findAt_some (b := 26624) (l := [reg 0 0, reg 1 3, im 6 5 0 124 4]) rfl (h.row [reg 0 0, reg 1 3, im 6 5 0 124 4] rfl rfl)
  by_cases e34 : op = 34
  · subst e34; exact (find_34 w).mono fun e w' h => findAt_some (b := 28672) (l := [reg 0 0, reg 1 3, im 6 5 0 31 1]) rfl (h.row [reg 0 0, reg 1 3, im 6 5 0 31 1] rfl rfl)
  by_cases e33 : op = 33
  · subst e33; exact (find_33 w).mono fun e w' h => findAt_some (b := 30720) (l := [reg 0 0, reg 1 3, im 6 5 0 31 1]) rfl (h.row [reg 0 0, reg 1 3, im 6 5 0 31 1] rfl rfl)
  by_cases e12 : 12 ≤ op ∧ op ≤ 27
  · exact (find_and op w e12.1 e12.2).mono fun e w' h => findAt_some (by unfold rowOf; rw [if_pos e12]) (h.row [reg 0 0, reg 2 3] rfl rfl)
  by_cases e8 : 8 ≤ op ∧ op ≤ 11
  · exact (find_mov op w e8.1 e8.2).mono fun e w' h => findAt_some (by unfold rowOf; rw [if_neg e12, if_pos e8]) (h.row [reg 0 8, im 0 8 0 255 1] rfl rfl)
  by_cases e36 : op = 36
  · subst e36; exact (find_late 36 w [reg 0 8, im 0 8 0 1020 4] 36 36864 true (fun w => (later_36 w).mono (fun e w' h => h.row [reg 0 8, im 0 8 0 1020 4] rfl rfl)) (by decide) (by decide) (by decide) (by decide) (by decide) (by decide) (by decide) (by decide) (by decide) (by decide) (by decide) (by decide) (by decide) (by decide) (by decide) ).mono fun e w' h => findAt_some (b := 36864) (l := [reg 0 8, im 0 8 0 1020 4]) rfl h
  by_cases e35 : op = 35
  · subst e35; exact (find_late 35 w [reg 0 8, im 0 8 0 1020 4] 35 38912 true (fun w => (later_35 w).mono (fun e w' h => h.row [reg 0 8, im 0 8 0 1020 4] rfl rfl)) (by decide) (by decide) (by decide) (by decide) (by decide) (by decide) (by decide) (by decide) (by decide) (by decide) (by decide) (by decide) (by decide) (by decide) (by decide) ).mono fun e w' h => findAt_some (b := 38912) (l := [reg 0 8, im 0 8 0 1020 4]) rfl h
  by_cases e37 : op = 37
  · subst e37; exact (find_late 37 w [im 0 7 0 508 4] 37 45056 true (fun w => (later_37 w).mono (fun e w' h => h.row [im 0 7 0 508 4] rfl rfl)) (by decide) (by decide) (by decide) (by decide) (by decide) (by decide) (by decide) (by decide) (by decide) (by decide) (by decide) (by decide) (by decide) (by decide) (by decide) ).mono fun e w' h => findAt_some (b := 45056) (l := [im 0 7 0 508 4]) rfl h
  by_cases e38 : op = 38
  · subst e38; exact (find_late 38 w [im 0 7 0 508 4] 38 45184 true (fun w => (later_38 w).mono (fun e w' h => h.row [im 0 7 0 508 4] rfl rfl)) (by decide) (by decide) (by decide) (by decide) (by decide) (by decide) (by decide) (by decide) (by decide) (by decide) (by decide) (by decide) (by decide) (by decide) (by decide) ).mono fun e w' h => findAt_some (b := 45184) (l := [im 0 7 0 508 4]) rfl h
  by_cases e39 : op = 39
  · subst e39; exact (find_late 39 w [im 0 9 1 511 1] 39 46080 true (fun w => (later_39 w).mono (fun e w' h => h.row [im 0 9 1 511 1] rfl rfl)) (by decide) (by decide) (by decide) (by decide) (by decide) (by decide) (by decide) (by decide) (by decide) (by decide) (by decide) (by decide) (by decide) (by decide) (by decide) ).mono fun e w' h => findAt_some (b := 46080) (l := [im 0 9 1 511 1]) rfl h
  by_cases e40 : op = 40
  · subst e40; exact (find_late 40 w [im 0 9 1 511 1] 40 48128 true (fun w => (later_40 w).mono (fun e w' h => h.row [im 0 9 1 511 1] rfl rfl)) (by decide) (by decide) (by decide) (by decide) (by decide) (by decide) (by decide) (by decide) (by decide) (by decide) (by decide) (by decide) (by decide) (by decide) (by decide) ).mono fun e w' h => findAt_some (b := 48128) (l := [im 0 9 1 511 1]) rfl h
  by_cases e41 : op = 41
  · subst e41; exact (find_late 41 w [im 0 8 (-256) 254 2, ⟨4, 8, 4, 0, 13, 1⟩] 41 53248 true (fun w => (later_41 w).mono (fun e w' h => h.row [im 0 8 (-256) 254 2, ⟨4, 8, 4, 0, 13, 1⟩] rfl rfl)) (by decide) (by decide) (by decide) (by decide) (by decide) (by decide) (by decide) (by decide) (by decide) (by decide) (by decide) (by decide) (by decide) (by decide) (by decide) ).mono fun e w' h => findAt_some (b := 53248) (l := [im 0 8 (-256) 254 2, ⟨4, 8, 4, 0, 13, 1⟩]) rfl h
  by_cases e42 : op = 42
  · subst e42; exact (find_late 42 w [im 0 11 (-2048) 2046 2] 42 57344 true (fun w => (later_42 w).mono (fun e w' h => h.row [im 0 11 (-2048) 2046 2] rfl rfl)) (by decide) (by decide) (by decide) (by decide) (by decide) (by decide) (by decide) (by decide) (by decide) (by decide) (by decide) (by decide) (by decide) (by decide) (by decide) ).mono fun e w' h => findAt_some (b := 57344) (l := [im 0 11 (-2048) 2046 2]) rfl h
  by_cases e44 : op = 44
  · subst e44; exact (find_late 44 w [im 0 8 0 255 1] 44 57088 true (fun w => (later_44 w).mono (fun e w' h => h.row [im 0 8 0 255 1] rfl rfl)) (by decide) (by decide) (by decide) (by decide) (by decide) (by decide) (by decide) (by decide) (by decide) (by decide) (by decide) (by decide) (by decide) (by decide) (by decide) ).mono fun e w' h => findAt_some (b := 57088) (l := [im 0 8 0 255 1]) rfl h
  by_cases e45 : op = 45
  · subst e45; exact (find_late 45 w [] 45 48896 true (fun w => (later_45 w).mono (fun e w' h => rowAt_nil h)) (by decide) (by decide) (by decide) (by decide) (by decide) (by decide) (by decide) (by decide) (by decide) (by decide) (by decide) (by decide) (by decide) (by decide) (by decide) ).mono fun e w' h => findAt_some (b := 48896) (l := []) rfl h
  exact (find_late op w [] 0 0 false (fun w => (later_none op w e36 e35 e37 e38 e39 e40 e41 e42 e44 e45).mono (fun e w' h => rowAt_nil h)) e12 e8 e1 e2 e3 e4 e5 e6 e7 e30 e29 e32 e31 e34 e33).mono fun e w' h => findAt_none (by simp [rowOf, e12, e8, e1, e2, e3, e4, e5, e6, e7, e30, e29, e32, e31, e34, e33, e36, e35, e37, e38, e39, e40, e41, e42, e44, e45]) h
theorem right_c (i : Ins) (w : World) : Calls Try.prog 71 #[.agg #[.int .i64 i.op, .int .i64 i.d, .int .i64 i.n, .int .i64 i.m, .int .i64 i.imm, .int .i64 i.cond]] w fun e w' => e = .returned (.bool (rightS i)) ∧ Below w.heap.size w w' := by
  obtain ⟨op, d, n, m, imm, cond⟩ := i
  by_cases h28 : op = 28
  · subst h28; exact right28 d n m imm cond w
  by_cases h43 : op = 43
  · subst h43; exact right43 d n m imm cond w
  have e : rightS ⟨op, d, n, m, imm, cond⟩ = match rowOf op with
      | none => false
      | some (_, l) => rowOk l ⟨op, d, n, m, imm, cond⟩ := by unfold rightS; rw [if_neg h28, if_neg h43]; rfl
  rw [e]
  cases hr : rowOf op with
  | none => exact (rightRow op d n m imm cond 0 0 [] false w (fun w => (find_c op w).mono fun e w' h => by unfold FindAt at h; rw [hr] at h; exact h) (by simp) (by simp) h28 h43).mono fun e w' h => h
  | some p =>
    obtain ⟨b, l⟩ := p
    obtain ⟨h1, h2⟩ := rowOf_ok hr
    have h1 : ∀ s ∈ l, s.step ≠ 0 := fun s hs => (h1 s hs).1
    exact (rightRow op d n m imm cond op b l true w (fun w => (find_c op w).mono fun e w' h => by unfold FindAt at h; rw [hr] at h; exact h) h1 h2 h28 h43).mono fun e w' h => h
end Go.Proofs.Ytpihjhfaeloapaa
