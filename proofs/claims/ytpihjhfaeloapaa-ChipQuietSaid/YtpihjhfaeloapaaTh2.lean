/- Thumb: instructions: which may be. No program in sight. -/
import Derived.Test.YtpihjhfaeloapaaTh
namespace Go.Proofs.Th
open Go.RowKit Go.Proofs.On
structure Ins where
  op : Int
  d : Int
  n : Int
  m : Int
  imm : Int
  cond : Int
deriving DecidableEq
def Ins.cells (i : Ins) : Array Value := #[.int .i64 i.op, .int .i64 i.d, .int .i64 i.n, .int .i64 i.m, .int .i64 i.imm, .int .i64 i.cond]
/-- where a part lies -/
def po (k : Int) : Nat := if k = 0 then 1 else if k = 1 then 2 else if k = 2 then 3 else if k = 3 then 4 else 5
def Ins.part (i : Ins) (k : Int) : Int := if k = 0 then i.d else if k = 1 then i.n else if k = 2 then i.m else if k = 3 then i.imm else i.cond
theorem part_cell (i : Ins) (k : Int) : i.cells[po k]? = some (.int .i64 (i.part k)) := by
  unfold po Ins.part Ins.cells
  repeat (first | rfl | split)
/-- may a part be? -/
def rpS : List Sl → Int → Int → Bool
  | [], v, _ => v == 0
  | s :: l, v, k => if s.part = k then decide (s.least ≤ v) && decide (v ≤ s.most) && (v.tmod s.step == 0) else rpS l v k
theorem cellsOf_len (l : List Sl) : (cellsOf l).length = l.length * 6 := by
  induction l with
  | nil => rfl
  | cons s l ih => simp only [cellsOf, List.length_append, ih, Sl.cells, List.length_cons, List.length_nil]; omega
theorem cellsOf_at {l : List Sl} : ∀ {i : Nat} {s : Sl} (_ : l[i]? = some s) {j : Nat} (_ : j < 6), (cellsOf l)[i * 6 + j]? = s.cells[j]? := by
  induction l with
  | nil => intro i s h; simp at h
  | cons x l ih =>
    intro i s h j hj
    cases i with
    | zero => simp at h; subst h; rw [cellsOf, List.getElem?_append_left (by simp [Sl.cells]; omega)]; simp
    | succ i =>
      simp at h
      rw [cellsOf, List.getElem?_append_right (by simp [Sl.cells]; omega), ← ih h hj]
      congr 1; simp [Sl.cells]; omega
/-- the slots of a row, in a block of their own -/
def SlA (u : TypeId) (w : World) (A : Option Addr) (l : List Sl) : Prop := (A = none ∧ l = []) ∨ ∃ g, A = some ⟨g, 0, none⟩ ∧ Blk w g u (cellsOf l).toArray
theorem SlA.below {u : TypeId} {w w' : World} {A : Option Addr} {l : List Sl} (h : SlA u w A l) (hb : Below w.heap.size w w') : SlA u w' A l := by
  rcases h with h | ⟨g, h1, h2⟩
  · exact .inl h
  · exact .inr ⟨g, h1, h2.only (S := fun _ => False) (Only.of_below hb) id⟩
theorem SlA.cell {u : TypeId} {w : World} {A : Option Addr} {l : List Sl} (h : SlA u w A l) {i : Nat} {s : Sl} (hs : l[i]? = some s) :
    ∃ g, A = some ⟨g, 0, none⟩ ∧ g < w.heap.size ∧ w.cell? ⟨g, i * 6, none⟩ = some (.int .i64 s.part) ∧ w.cell? ⟨g, i * 6 + 1, none⟩ = some (.int .i64 s.shift) ∧ w.cell? ⟨g, i * 6 + 2, none⟩ = some (.int .i64 s.bits) ∧
      w.cell? ⟨g, i * 6 + 3, none⟩ = some (.int .i64 s.least) ∧ w.cell? ⟨g, i * 6 + 4, none⟩ = some (.int .i64 s.most) ∧ w.cell? ⟨g, i * 6 + 5, none⟩ = some (.int .i64 s.step) := by
  rcases h with ⟨_, rfl⟩ | ⟨g, h1, h2⟩
  · simp at hs
  · have k : ∀ j : Nat, j < 6 → w.cell? ⟨g, i * 6 + j, none⟩ = s.cells[j]? := fun j hj => by
      rw [h2.cell (i * 6 + j), List.getElem?_toArray]; exact cellsOf_at hs hj
    exact ⟨g, h1, h2.lt, k 0 (by omega), k 1 (by omega), k 2 (by omega), k 3 (by omega), k 4 (by omega), k 5 (by omega)⟩
def rowOk (l : List Sl) (i : Ins) : Bool := rpS l i.d 0 && rpS l i.n 1 && rpS l i.m 2 && rpS l i.imm 3 && rpS l i.cond 4
/-- which instructions may be -/
def rightS (i : Ins) : Bool :=
  if i.op = 28 then decide (i.n = 0) && decide (i.imm = 0) && decide (i.cond = 0) && decide (0 ≤ i.d) && decide (i.d < 15) && decide (i.d ≠ 13) && decide (0 ≤ i.m) && decide (i.m < 15)
  else if i.op = 43 then decide (i.d = 0) && decide (i.n = 0) && decide (i.m = 0) && decide (i.cond = 0) && decide (-16777216 ≤ i.imm) && decide (i.imm ≤ 16777214) && (i.imm.tmod 2 == 0)
  else match rowOf i.op with
    | none => false
    | some (_, l) => rowOk l i
end Go.Proofs.Th
