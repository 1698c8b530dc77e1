/- Thumb: what a halfword is, by the document; the check of one halfword: plain. No program in sight. -/
import Derived.Test.YtpcjkllhieiiiaaTh7
namespace Go.Proofs.Th
open Go.RowKit Go.Proofs.On
def signS (n k : Int) : Int := if k / 2 ≤ n then n - k else n
def decR1 (x : Int) : Ins :=
  if x < 6144 then ⟨1 + x / 2048, x % 8, 0, x / 8 % 8, (if 1 + x / 2048 ≠ 1 ∧ x / 64 % 32 = 0 then 32 else x / 64 % 32), 0⟩
  else if x < 7168 then ⟨4 + x / 512 % 2, x % 8, x / 8 % 8, x / 64 % 8, 0, 0⟩
  else if x < 8192 then ⟨6 + x / 512 % 2, x % 8, x / 8 % 8, 0, x / 64 % 8, 0⟩
  else if x < 16384 then ⟨8 + x / 2048 % 4, x / 256 % 8, 0, 0, x % 256, 0⟩
  else if x < 17408 then ⟨12 + x / 64 % 16, x % 8, 0, x / 8 % 8, 0, 0⟩
  else if x / 256 = 70 then ⟨28, x / 128 % 2 * 8 + x % 8, 0, x / 8 % 16, 0, 0⟩
  else if x / 512 = 40 then ⟨30, x % 8, x / 8 % 8, x / 64 % 8, 0, 0⟩
  else if x / 512 = 44 then ⟨29, x % 8, x / 8 % 8, x / 64 % 8, 0, 0⟩
  else if x / 2048 = 12 then ⟨32, x % 8, x / 8 % 8, 0, x / 64 % 32 * 4, 0⟩
  else if x / 2048 = 13 then ⟨31, x % 8, x / 8 % 8, 0, x / 64 % 32 * 4, 0⟩
  else if x / 2048 = 14 then ⟨34, x % 8, x / 8 % 8, 0, x / 64 % 32, 0⟩
  else if x / 2048 = 15 then ⟨33, x % 8, x / 8 % 8, 0, x / 64 % 32, 0⟩
  else if x / 2048 = 18 then ⟨36, x / 256 % 8, 0, 0, x % 256 * 4, 0⟩
  else if x / 2048 = 19 then ⟨35, x / 256 % 8, 0, 0, x % 256 * 4, 0⟩
  else if x / 128 = 352 then ⟨37, 0, 0, 0, x % 128 * 4, 0⟩
  else if x / 128 = 353 then ⟨38, 0, 0, 0, x % 128 * 4, 0⟩
  else if x / 512 = 90 then ⟨39, 0, 0, 0, x % 512, 0⟩
  else if x / 512 = 94 then ⟨40, 0, 0, 0, x % 512, 0⟩
  else if x = 48896 then ⟨45, 0, 0, 0, 0, 0⟩
  else if x / 4096 = 13 ∧ x / 256 % 16 < 14 then ⟨41, 0, 0, 0, 2 * signS (x % 256) 256, x / 256 % 16⟩
  else if x / 256 = 223 then ⟨44, 0, 0, 0, x % 256, 0⟩
  else if x / 2048 = 28 then ⟨42, 0, 0, 0, 2 * signS (x % 2048) 2048, 0⟩
  else ⟨0, 0, 0, 0, 0, 0⟩
/-- one halfword: what is decoded is what the document says, and is encoded as the same halfword -/
def chkH (a : Int) : Bool :=
  let r := decR1 a
  if rightS r then decide (decS [a] = (r, 1, 0)) && decide (encL r = [a]) else decide (decS [a] = (⟨0, 0, 0, 0, 0, 0⟩, 0, 8))
def chkB (k : Nat) : Bool := (List.range 256).all fun j => chkH ((k * 256 + j : Nat) : Int)
end Go.Proofs.Th
