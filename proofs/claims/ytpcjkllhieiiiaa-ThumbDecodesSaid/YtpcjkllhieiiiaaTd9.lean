/- ref14.Decode of one halfword. -/
import Derived.Test.YtpcjkllhieiiiaaTd4
import Derived.Test.YtpcjkllhieiiiaaTd5
import Derived.Test.YtpcjkllhieiiiaaTd6
import Derived.Test.YtpcjkllhieiiiaaTd7
import Derived.Test.YtpcjkllhieiiiaaTd8
namespace Go.Proofs.Ytpcjkllhieiiiaa
open Go.RowKit On Th
theorem refDec_one (g o n c : Nat) (a : Int) (w : World) (hn : 1 ≤ n) (ca : w.cell? ⟨g, o, none⟩ = some (.int .u16 a)) (h1 : a / 2048 ≠ 30) (ha : 0 ≤ a) (ha' : a < 65536) :
    Calls Try.prog 18 #[.slice (some ⟨g, o, none⟩) n c] w fun e w' => ∃ k : Int, ∃ i : Ins, e = .returned (.tuple #[.agg #[.int .i64 i.op, .int .i64 i.d, .int .i64 i.n, .int .i64 i.m, .int .i64 i.imm, .int .i64 i.cond], .int .i64 k]) ∧ Below w.heap.size w w' ∧ RefOne a k i := by
  by_cases g0 : a < 6144
  · by_cases s1 : a / 2048 = 0
    · exact refDec_arm0a g o n c a w hn ca h1 ha ha' g0 s1
    · by_cases s2 : a / 64 % 32 = 0
      · exact refDec_arm0b g o n c a w hn ca h1 ha ha' g0 ⟨s1, s2⟩
      · exact refDec_arm0c g o n c a w hn ca h1 ha ha' g0 ⟨s1, s2⟩
  by_cases g1 : a < 7168
  · exact refDec_arm1 g o n c a w hn ca h1 ha ha' g0 g1
  by_cases g2 : a < 8192
  · exact refDec_arm2 g o n c a w hn ca h1 ha ha' g0 g1 g2
  by_cases g3 : a < 16384
  · exact refDec_arm3 g o n c a w hn ca h1 ha ha' g0 g1 g2 g3
  by_cases g4 : a < 17408
  · exact refDec_arm4 g o n c a w hn ca h1 ha ha' g0 g1 g2 g3 g4
  by_cases g5 : a / 256 = 70
  · exact refDec_arm5 g o n c a w hn ca h1 ha ha' g0 g1 g2 g3 g4 g5
  by_cases g6 : a / 512 = 40
  · exact refDec_arm6 g o n c a w hn ca h1 ha ha' g0 g1 g2 g3 g4 g5 g6
  by_cases g7 : a / 512 = 44
  · exact refDec_arm7 g o n c a w hn ca h1 ha ha' g0 g1 g2 g3 g4 g5 g6 g7
  by_cases g8 : a / 2048 = 12
  · exact refDec_arm8 g o n c a w hn ca h1 ha ha' g0 g1 g2 g3 g4 g5 g6 g7 g8
  by_cases g9 : a / 2048 = 13
  · exact refDec_arm9 g o n c a w hn ca h1 ha ha' g0 g1 g2 g3 g4 g5 g6 g7 g8 g9
  by_cases g10 : a / 2048 = 14
  · exact refDec_arm10 g o n c a w hn ca h1 ha ha' g0 g1 g2 g3 g4 g5 g6 g7 g8 g9 g10
  by_cases g11 : a / 2048 = 15
  · exact refDec_arm11 g o n c a w hn ca h1 ha ha' g0 g1 g2 g3 g4 g5 g6 g7 g8 g9 g10 g11
  by_cases g12 : a / 2048 = 18
  · exact refDec_arm12 g o n c a w hn ca h1 ha ha' g0 g1 g2 g3 g4 g5 g6 g7 g8 g9 g10 g11 g12
  by_cases g13 : a / 2048 = 19
  · exact refDec_arm13 g o n c a w hn ca h1 ha ha' g0 g1 g2 g3 g4 g5 g6 g7 g8 g9 g10 g11 g12 g13
  by_cases g14 : a / 128 = 352
  · exact refDec_arm14 g o n c a w hn ca h1 ha ha' g0 g1 g2 g3 g4 g5 g6 g7 g8 g9 g10 g11 g12 g13 g14
  by_cases g15 : a / 128 = 353
  · exact refDec_arm15 g o n c a w hn ca h1 ha ha' g0 g1 g2 g3 g4 g5 g6 g7 g8 g9 g10 g11 g12 g13 g14 g15
  by_cases g16 : a / 512 = 90
  · exact refDec_arm16 g o n c a w hn ca h1 ha ha' g0 g1 g2 g3 g4 g5 g6 g7 g8 g9 g10 g11 g12 g13 g14 g15 g16
  by_cases g17 : a / 512 = 94
  · exact refDec_arm17 g o n c a w hn ca h1 ha ha' g0 g1 g2 g3 g4 g5 g6 g7 g8 g9 g10 g11 g12 g13 g14 g15 g16 g17
  by_cases g18 : a = 48896
  · exact refDec_arm18 g o n c a w hn ca h1 ha ha' g0 g1 g2 g3 g4 g5 g6 g7 g8 g9 g10 g11 g12 g13 g14 g15 g16 g17 g18
  by_cases g19 : (a / 4096 = 13 ∧ a / 256 % 16 < 14)
  · exact refDec_arm19 g o n c a w hn ca h1 ha ha' g0 g1 g2 g3 g4 g5 g6 g7 g8 g9 g10 g11 g12 g13 g14 g15 g16 g17 g18 g19
  by_cases g20 : a / 256 = 223
  · exact refDec_arm20 g o n c a w hn ca h1 ha ha' g0 g1 g2 g3 g4 g5 g6 g7 g8 g9 g10 g11 g12 g13 g14 g15 g16 g17 g18 g19 g20
  by_cases g21 : a / 2048 = 28
  · exact refDec_arm21 g o n c a w hn ca h1 ha ha' g0 g1 g2 g3 g4 g5 g6 g7 g8 g9 g10 g11 g12 g13 g14 g15 g16 g17 g18 g19 g20 g21
  exact refDec_arm22 g o n c a w hn ca h1 ha ha' g0 g1 g2 g3 g4 g5 g6 g7 g8 g9 g10 g11 g12 g13 g14 g15 g16 g17 g18 g19 g20 g21
end Go.Proofs.Ytpcjkllhieiiiaa
