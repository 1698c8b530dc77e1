/- Thumb: reckoned out, halfword by halfword: plain. No program in sight. -/
import Derived.Test.YtpcjkllhieiiiaaTh9
namespace Go.Proofs.Th
open Go.RowKit Go.Proofs.On
set_option maxRecDepth 100000
theorem chk_160 : ((List.range 8).all fun i => chkB (160 + i)) = true := by decide +kernel
theorem chk_168 : ((List.range 8).all fun i => chkB (168 + i)) = true := by decide +kernel
theorem chk_176 : ((List.range 8).all fun i => chkB (176 + i)) = true := by decide +kernel
theorem chk_184 : ((List.range 8).all fun i => chkB (184 + i)) = true := by decide +kernel
theorem chk_192 : ((List.range 8).all fun i => chkB (192 + i)) = true := by decide +kernel
end Go.Proofs.Th
