/- Thumb: halfwords: the plain answers. No program in sight. -/
import Derived.Test.YtpihjhfaeloapaaTh2
namespace Go.Proofs.Th
open Go.RowKit Go.Proofs.On
/-- a MovH's halfword -/
def enc28 (d m : Int) : Int := IntKind.u16.wrap (bits .or .i64 (bits .or .i64 (bits .or .i64 17920 (wrap64 (d / 8 * 128))) (wrap64 (m * 8))) (bits .and .i64 d 7))
/-- a Bl's halfwords -/
def longS (imm : Int) : Int := if imm < 0 then 1 else 0
def longA (imm : Int) : Int := IntKind.u16.wrap (bits .or .i64 (bits .or .i64 61440 (wrap64 (longS imm * 1024))) (bits .and .i64 (imm / 4096) 1023))
def longJ (imm by_ : Int) : Int := wrap64 (1 - bits .xor .i64 (bits .and .i64 (imm / by_) 1) (longS imm))
def longB (imm : Int) : Int := IntKind.u16.wrap (bits .or .i64 (bits .or .i64 (bits .or .i64 53248 (wrap64 (longJ imm 8388608 * 8192))) (wrap64 (longJ imm 4194304 * 2048))) (bits .and .i64 (imm / 2) 2047))
/-- a slot's part of a halfword -/
def encStep (i : Ins) (h : Int) (s : Sl) : Int := bits .or .u16 h (IntKind.u16.wrap (IntKind.u16.wrap (bits .and .i64 (IntKind.i64.wrap ((i.part s.part).tdiv s.step)) (IntKind.i64.wrap (IntKind.i64.wrap (2 ^ s.bits.toNat) - 1))) * 2 ^ s.shift.toNat))
def encUp (b : Int) (l : List Sl) (i : Ins) (q : Nat) : Int := (l.take q).foldl (encStep i) b
theorem encUp_succ (b : Int) (l : List Sl) (i : Ins) {q : Nat} {s : Sl} (h : l[q]? = some s) : encUp b l i (q + 1) = encStep i (encUp b l i q) s := by
  unfold encUp; rw [List.take_add_one, h]; simp
/-- the halfwords of an instruction that may be -/
def encL (i : Ins) : List Int :=
  if i.op = 28 then [enc28 i.d i.m] else if i.op = 43 then [longA i.imm, longB i.imm]
  else match rowOf i.op with
    | none => []
    | some (b, l) => [encUp b l i l.length]
def okSl (s : Sl) : Bool := decide (s.step ≠ 0) && decide (0 ≤ s.bits) && decide (s.bits < 16) && decide (0 ≤ s.shift) && decide (s.shift < 16)
def chkRow : Option (Int × List Sl) → Bool
  | none => true
  | some p => p.2.all okSl && decide (p.2.length ≤ 5)
theorem chk_ite (c : Prop) [Decidable c] (a b : Option (Int × List Sl)) (ha : chkRow a = true) (hb : chkRow b = true) : chkRow (if c then a else b) = true := by
  by_cases h : c
  · rw [if_pos h]; exact ha
  · rw [if_neg h]; exact hb
theorem chkRow_all (op : Int) : chkRow (rowOf op) = true := by
  unfold rowOf
  repeat' (first | (with_reducible refine chk_ite _ _ _ ?_ ?_) | rfl)
theorem rowOf_ok {op b : Int} {l : List Sl} (h : rowOf op = some (b, l)) : (∀ s ∈ l, s.step ≠ 0 ∧ 0 ≤ s.bits ∧ s.bits < 16 ∧ 0 ≤ s.shift ∧ s.shift < 16) ∧ l.length ≤ 5 := by
  have := chkRow_all op
  rw [h] at this
  simp [chkRow, okSl] at this
  exact ⟨fun s hs => by have := this.1 s hs; omega, this.2⟩
/-- the number of an instruction that a halfword may be of -/
def oddS (h : Int) : Int := if h / 128 = 352 then 37 else if h / 128 = 353 then 38 else if h / 512 = 90 then 39 else if h / 512 = 94 then 40 else 45
def opS (h : Int) : Int :=
  if h / 2048 < 3 then 1 + h / 2048 else if h / 2048 = 3 then 4 + h / 512 % 4 else if h / 2048 < 8 then 8 + (h / 2048 - 4) else if h / 2048 = 8 then 12 + h / 64 % 16
  else if h / 2048 = 10 then 30 else if h / 2048 = 11 then 29 else if h / 2048 = 12 then 32 else if h / 2048 = 13 then 31 else if h / 2048 = 14 then 34 else if h / 2048 = 15 then 33
  else if h / 2048 = 18 then 36 else if h / 2048 = 19 then 35 else if h / 2048 = 22 then oddS h else if h / 2048 = 23 then oddS h
  else if h / 2048 = 26 then (if h / 256 = 223 then 44 else 41) else if h / 2048 = 27 then (if h / 256 = 223 then 44 else 41) else if h / 2048 = 28 then 42 else 0
def Ins.set (i : Ins) (k v : Int) : Ins := if k = 0 then { i with d := v } else if k = 1 then { i with n := v } else if k = 2 then { i with m := v } else if k = 3 then { i with imm := v } else { i with cond := v }
theorem set_cells (i : Ins) (k v : Int) : i.cells.setIfInBounds (po k) (.int .i64 v) = (i.set k v).cells := by
  unfold po Ins.set Ins.cells
  by_cases h0 : k = 0
  · simp [h0]
  by_cases h1 : k = 1
  · simp [h1]
  by_cases h2 : k = 2
  · simp [h2]
  by_cases h3 : k = 3
  · simp [h3]
  · simp [h0, h1, h2, h3]
/-- what a slot tells of a halfword -/
def maskS (s : Sl) : Int := IntKind.u16.wrap (IntKind.u16.wrap (IntKind.u16.wrap (2 ^ s.bits.toNat) - 1) * 2 ^ s.shift.toNat)
def rawS (h : Int) (s : Sl) : Int := IntKind.i64.wrap (IntKind.i64.wrap (bits .and .u16 h (maskS s) / 2 ^ s.shift.toNat) * s.step)
def numS (h : Int) (s : Sl) : Int :=
  if s.most < rawS h s then wrap64 (rawS h s - wrap64 (s.step * 2 ^ s.bits.toNat)) else if rawS h s < s.least then wrap64 (rawS h s + wrap64 (s.step * 2 ^ s.bits.toNat)) else rawS h s
def readStep (h : Int) (st : Ins × Int) (s : Sl) : Ins × Int := (st.1.set s.part (numS h s), bits .andNot .u16 st.2 (maskS s))
def readUp (op h : Int) (l : List Sl) (q : Nat) : Ins × Int := (l.take q).foldl (readStep h) (⟨op, 0, 0, 0, 0, 0⟩, h)
theorem readUp_succ (op h : Int) (l : List Sl) {q : Nat} {s : Sl} (hs : l[q]? = some s) : readUp op h l (q + 1) = readStep h (readUp op h l q) s := by
  unfold readUp; rw [List.take_add_one, hs]; simp
end Go.Proofs.Th
