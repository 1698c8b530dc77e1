/- Thumb: reckoned out, halfword by halfword: plain. No program in sight. -/
import Derived.Test.YtpcjkllhieiiiaaTh9
namespace Go.Proofs.Th
open Go.RowKit Go.Proofs.On
set_option maxRecDepth 100000
theorem chk_80 : ((List.range 8).all fun i => chkB (80 + i)) = true := by decide +kernel
theorem chk_88 : ((List.range 8).all fun i => chkB (88 + i)) = true := by decide +kernel
theorem chk_96 : ((List.range 8).all fun i => chkB (96 + i)) = true := by decide +kernel
theorem chk_104 : ((List.range 8).all fun i => chkB (104 + i)) = true := by decide +kernel
theorem chk_112 : ((List.range 8).all fun i => chkB (112 + i)) = true := by decide +kernel
end Go.Proofs.Th
