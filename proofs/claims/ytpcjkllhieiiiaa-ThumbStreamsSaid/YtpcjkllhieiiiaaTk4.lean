/- Thumb: reckoned out, halfword by halfword: plain. No program in sight. -/
import Derived.Test.YtpcjkllhieiiiaaTh9
namespace Go.Proofs.Th
open Go.RowKit Go.Proofs.On
set_option maxRecDepth 100000
theorem chk_120 : ((List.range 8).all fun i => chkB (120 + i)) = true := by decide +kernel
theorem chk_128 : ((List.range 8).all fun i => chkB (128 + i)) = true := by decide +kernel
theorem chk_136 : ((List.range 8).all fun i => chkB (136 + i)) = true := by decide +kernel
theorem chk_144 : ((List.range 8).all fun i => chkB (144 + i)) = true := by decide +kernel
theorem chk_152 : ((List.range 8).all fun i => chkB (152 + i)) = true := by decide +kernel
end Go.Proofs.Th
