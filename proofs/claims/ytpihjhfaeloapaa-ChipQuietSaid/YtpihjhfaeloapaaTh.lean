/- Thumb: instructions, slots, rows: the plain answers. No program in sight. -/
import Derived.WalkKit
import Derived.Test.YtpihjhfaeloapaaOnly
namespace Go.Proofs.Th
open Go.RowKit Go.Proofs.On
structure Sl where
  part : Int
  shift : Int
  bits : Int
  least : Int
  most : Int
  step : Int
def reg (p s : Int) : Sl := ⟨p, s, 3, 0, 7, 1⟩
def im (s b l m st : Int) : Sl := ⟨3, s, b, l, m, st⟩
def Sl.cells (s : Sl) : List Value := [.int .i64 s.part, .int .i64 s.shift, .int .i64 s.bits, .int .i64 s.least, .int .i64 s.most, .int .i64 s.step]
def cellsOf : List Sl → List Value
  | [] => []
  | s :: l => s.cells ++ cellsOf l
/-- the row of an instruction: its bits, its slots -/
def rowOf (op : Int) : Option (Int × List Sl) :=
  if 12 ≤ op ∧ op ≤ 27 then some (16384 + (op - 12) * 64, [reg 0 0, reg 2 3])
  else if 8 ≤ op ∧ op ≤ 11 then some (8192 + (op - 8) * 2048, [reg 0 8, im 0 8 0 255 1])
  else if op = 1 then some (0, [reg 0 0, reg 2 3, im 6 5 0 31 1])
  else if op = 2 then some (2048, [reg 0 0, reg 2 3, im 6 5 1 32 1])
  else if op = 3 then some (4096, [reg 0 0, reg 2 3, im 6 5 1 32 1])
  else if op = 4 then some (6144, [reg 0 0, reg 1 3, reg 2 6])
  else if op = 5 then some (6656, [reg 0 0, reg 1 3, reg 2 6])
  else if op = 6 then some (7168, [reg 0 0, reg 1 3, im 6 3 0 7 1])
  else if op = 7 then some (7680, [reg 0 0, reg 1 3, im 6 3 0 7 1])
  else if op = 30 then some (20480, [reg 0 0, reg 1 3, reg 2 6])
  else if op = 29 then some (22528, [reg 0 0, reg 1 3, reg 2 6])
  else if op = 32 then some (24576, [reg 0 0, reg 1 3, im 6 5 0 124 4])
  else if op = 31 then some (26624, [reg 0 0, reg 1 3, im 6 5 0 124 4])
  else if op = 34 then some (28672, [reg 0 0, reg 1 3, im 6 5 0 31 1])
  else if op = 33 then some (30720, [reg 0 0, reg 1 3, im 6 5 0 31 1])
  else if op = 36 then some (36864, [reg 0 8, im 0 8 0 1020 4])
  else if op = 35 then some (38912, [reg 0 8, im 0 8 0 1020 4])
  else if op = 37 then some (45056, [im 0 7 0 508 4])
  else if op = 38 then some (45184, [im 0 7 0 508 4])
  else if op = 39 then some (46080, [im 0 9 1 511 1])
  else if op = 40 then some (48128, [im 0 9 1 511 1])
  else if op = 41 then some (53248, [im 0 8 (-256) 254 2, ⟨4, 8, 4, 0, 13, 1⟩])
  else if op = 42 then some (57344, [im 0 11 (-2048) 2046 2])
  else if op = 44 then some (57088, [im 0 8 0 255 1])
  else if op = 45 then some (48896, [])
  else none
end Go.Proofs.Th
