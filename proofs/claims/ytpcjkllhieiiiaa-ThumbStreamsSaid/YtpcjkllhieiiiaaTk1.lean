/- Thumb: reckoned out, halfword by halfword: plain. No program in sight. -/
import Derived.Test.YtpcjkllhieiiiaaTh9
namespace Go.Proofs.Th
open Go.RowKit Go.Proofs.On
set_option maxRecDepth 100000
theorem chk_0 : ((List.range 8).all fun i => chkB (0 + i)) = true := by decide +kernel
theorem chk_8 : ((List.range 8).all fun i => chkB (8 + i)) = true := by decide +kernel
theorem chk_16 : ((List.range 8).all fun i => chkB (16 + i)) = true := by decide +kernel
theorem chk_24 : ((List.range 8).all fun i => chkB (24 + i)) = true := by decide +kernel
theorem chk_32 : ((List.range 8).all fun i => chkB (32 + i)) = true := by decide +kernel
end Go.Proofs.Th
