/- Thumb: what Decode answers: plain. No program in sight. -/
import Derived.Test.YtpcjkllhieiiiaaTh4
namespace Go.Proofs.Th
open Go.RowKit Go.Proofs.On
def movI (a : Int) : Ins := ⟨28, a / 128 % 2 * 8 + a % 8, 0, a / 8 % 16, 0, 0⟩
def Zi : Ins := ⟨0, 0, 0, 0, 0, 0⟩
def decS : List Int → Ins × Int × Int
  | [] => (⟨0, 0, 0, 0, 0, 0⟩, 0, 7)
  | a :: t =>
    if a / 2048 = 30 then
      match t with
      | [] => (⟨0, 0, 0, 0, 0, 0⟩, 0, 7)
      | b :: _ => if bits .and .u16 b 53248 = 53248 then (⟨43, 0, 0, 0, farS a b, 0⟩, 2, 0) else (⟨0, 0, 0, 0, 0, 0⟩, 0, 8)
    else if a / 256 = 70 then (if rightS (movI a) then (movI a, 1, 0) else (⟨0, 0, 0, 0, 0, 0⟩, 0, 8))
    else match rowOf (opS a) with
      | none => (⟨0, 0, 0, 0, 0, 0⟩, 0, 8)
      | some (b, l) => if ((readUp (opS a) a l l.length).2 == b) && rightS (readUp (opS a) a l l.length).1 then ((readUp (opS a) a l l.length).1, 1, 0) else (⟨0, 0, 0, 0, 0, 0⟩, 0, 8)
end Go.Proofs.Th
