/- MERGED by mergeq.py: XTh9 XTk1 XTk2 XTk3. -/
import Derived.Test.YtpihjhfaeloapaaTh7
namespace Go.Proofs.Th
open Go.RowKit Go.Proofs.On
def signS (n k : Int) : Int := if k / 2 ≤ n then n - k else n
def decR1 (x : Int) : Ins :=
  if x < 6144 then ⟨1 + x / 2048, x % 8, 0, x / 8 % 8, (if 1 + x / 2048 ≠ 1 ∧ x / 64 % 32 = 0 then 32 else x / 64 % 32), 0⟩
  else if x < 7168 then ⟨4 + x / 512 % 2, x % 8, x / 8 % 8, x / 64 % 8, 0, 0⟩
  else if x < 8192 then ⟨6 + x / 512 % 2, x % 8, x / 8 % 8, 0, x / 64 % 8, 0⟩
  else if x < 16384 then ⟨8 + x / 2048 % 4, x / 256 % 8, 0, 0, x % 256, 0⟩
  else if x < 17408 then ⟨12 + x / 64 % 16, x % 8, 0, x / 8 % 8, 0, 0⟩
  else if x / 256 = 70 then ⟨28, x / 128 % 2 * 8 + x % 8, 0, x / 8 % 16, 0, 0⟩
  else if x / 512 = 40 then ⟨30, x % 8, x / 8 % 8, x / 64 % 8, 0, 0⟩
  else if x / 512 = 44 then ⟨29, x % 8, x / 8 % 8, x / 64 % 8, 0, 0⟩
  else if x / 2048 = 12 then ⟨32, x % 8, x / 8 % 8, 0, x / 64 % 32 * 4, 0⟩
  else if x / 2048 = 13 then ⟨31, x % 8, x / 8 % 8, 0, x / 64 % 32 * 4, 0⟩
  else if x / 2048 = 14 then ⟨34, x % 8, x / 8 % 8, 0, x / 64 % 32, 0⟩
  else if x / 2048 = 15 then ⟨33, x % 8, x / 8 % 8, 0, x / 64 % 32, 0⟩
  else if x / 2048 = 18 then ⟨36, x / 256 % 8, 0, 0, x % 256 * 4, 0⟩
  else if x / 2048 = 19 then ⟨35, x / 256 % 8, 0, 0, x % 256 * 4, 0⟩
  else if x / 128 = 352 then ⟨37, 0, 0, 0, x % 128 * 4, 0⟩
  else if x / 128 = 353 then ⟨38, 0, 0, 0, x % 128 * 4, 0⟩
  else if x / 512 = 90 then ⟨39, 0, 0, 0, x % 512, 0⟩
  else if x / 512 = 94 then ⟨40, 0, 0, 0, x % 512, 0⟩
  else if x = 48896 then ⟨45, 0, 0, 0, 0, 0⟩
  else if x / 4096 = 13 ∧ x / 256 % 16 < 14 then ⟨41, 0, 0, 0, 2 * signS (x % 256) 256, x / 256 % 16⟩
  else if x / 256 = 223 then ⟨44, 0, 0, 0, x % 256, 0⟩
  else if x / 2048 = 28 then ⟨42, 0, 0, 0, 2 * signS (x % 2048) 2048, 0⟩
  else ⟨0, 0, 0, 0, 0, 0⟩
/-- one halfword: what is decoded is what the document says, and is encoded as the same halfword -/
def chkH (a : Int) : Bool :=
  let r := decR1 a
  if rightS r then decide (decS [a] = (r, 1, 0)) && decide (encL r = [a]) else decide (decS [a] = (⟨0, 0, 0, 0, 0, 0⟩, 0, 8))
def chkB (k : Nat) : Bool := (List.range 256).all fun j => chkH ((k * 256 + j : Nat) : Int)
end Go.Proofs.Th
namespace Go.Proofs.Th
open Go.RowKit Go.Proofs.On
set_option maxRecDepth 100000
theorem chk_0 : ((List.range 8).all fun i => chkB (0 + i)) = true := by decide +kernel
theorem chk_8 : ((List.range 8).all fun i => chkB (8 + i)) = true := by decide +kernel
theorem chk_16 : ((List.range 8).all fun i => chkB (16 + i)) = true := by decide +kernel
theorem chk_24 : ((List.range 8).all fun i => chkB (24 + i)) = true := by decide +kernel
theorem chk_32 : ((List.range 8).all fun i => chkB (32 + i)) = true := by decide +kernel
end Go.Proofs.Th
namespace Go.Proofs.Th
open Go.RowKit Go.Proofs.On
set_option maxRecDepth 100000
theorem chk_40 : ((List.range 8).all fun i => chkB (40 + i)) = true := by decide +kernel
theorem chk_48 : ((List.range 8).all fun i => chkB (48 + i)) = true := by decide +kernel
theorem chk_56 : ((List.range 8).all fun i => chkB (56 + i)) = true := by decide +kernel
theorem chk_64 : ((List.range 8).all fun i => chkB (64 + i)) = true := by decide +kernel
theorem chk_72 : ((List.range 8).all fun i => chkB (72 + i)) = true := by decide +kernel
end Go.Proofs.Th
namespace Go.Proofs.Th
open Go.RowKit Go.Proofs.On
set_option maxRecDepth 100000
theorem chk_80 : ((List.range 8).all fun i => chkB (80 + i)) = true := by decide +kernel
theorem chk_88 : ((List.range 8).all fun i => chkB (88 + i)) = true := by decide +kernel
theorem chk_96 : ((List.range 8).all fun i => chkB (96 + i)) = true := by decide +kernel
theorem chk_104 : ((List.range 8).all fun i => chkB (104 + i)) = true := by decide +kernel
theorem chk_112 : ((List.range 8).all fun i => chkB (112 + i)) = true := by decide +kernel
end Go.Proofs.Th
