/- hand.Node, whole. -/
import Derived.Test.YtilifniflpbbkaaDoorHnA
import Derived.Test.YtilifniflpbbkaaDoorHnB
import Derived.Test.YtilifniflpbbkaaDoorHnC
import Derived.Test.YtilifniflpbbkaaDoorHnD
import Derived.Test.YtilifniflpbbkaaDoorHnE
namespace Go.Proofs.YtilifniflpbbkaaDoor
open Go.RowKit On
theorem _root_.Go.RowKit.Below.drewn {B : Nat} {a w : World} (h : Below B a w) : Below B a w.drew := ⟨h.os, h.tape, h.output, h.size, h.block⟩
theorem Ints.drewn {q : IntKind} {w : World} {s : Value} {xs : List Int} (h : Ints q w s xs) : Ints q w.drew s xs := h
/-- hand.Node -/
theorem hnode_c (x0 x1 x2 x3 x4 x5 x6 x7 : Int) (XA : Option Addr) (xc : Nat) (xs : List Int) (regs nodes : Int) (hr : regs ≤ 1000000) (hn1 : 1 ≤ nodes) (hn : nodes ≤ 1000000) (w : World) (hx : Ints .i64 w (.slice XA xs.length xc) xs) (hbins : Bins w) :
    Calls Tryd.prog 7 #[.agg #[.int .i64 x0, .int .i64 x1, .int .i64 x2, .int .i64 x3, .int .i64 x4, .int .i64 x5, .int .i64 x6, .int .i64 x7, .slice XA xs.length xc], .int .i64 regs, .int .i64 nodes] w (NodeAt w) := by
  have h : (x0 % 18 = 0 ∨ x0 % 18 = 1 ∨ x0 % 18 = 2 ∨ x0 % 18 = 8 ∨ x0 % 18 = 9 ∨ x0 % 18 = 10 ∨ x0 % 18 = 11 ∨ x0 % 18 = 12 ∨ x0 % 18 = 13 ∨ x0 % 18 = 17) ∨ (x0 % 18 = 3 ∨ x0 % 18 = 4 ∨ x0 % 18 = 6) ∨ (x0 % 18 = 5 ∨ x0 % 18 = 7 ∨ x0 % 18 = 14) ∨ x0 % 18 = 15 ∨ x0 % 18 = 16 := by omega
  rcases h with h | h | h | h | h
  · exact hnode_a x0 x1 x2 x3 x4 x5 x6 x7 XA xc xs regs nodes hr hn1 hn w hx hbins h
  · exact hnode_b x0 x1 x2 x3 x4 x5 x6 x7 XA xc xs regs nodes hr hn1 hn w hx hbins h
  · exact hnode_f x0 x1 x2 x3 x4 x5 x6 x7 XA xc xs regs nodes hr hn1 hn w hx hbins h
  · exact hnode_d x0 x1 x2 x3 x4 x5 x6 x7 XA xc xs regs nodes hr hn1 hn w hx hbins h
  · exact hnode_e x0 x1 x2 x3 x4 x5 x6 x7 XA xc xs regs nodes hr hn1 hn w hx hbins h
end Go.Proofs.YtilifniflpbbkaaDoor
