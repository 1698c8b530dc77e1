/- Thumb: reckoned out, halfword by halfword: plain. No program in sight. -/
import Derived.Test.YtpcjkllhieiiiaaTh9
namespace Go.Proofs.Th
open Go.RowKit Go.Proofs.On
set_option maxRecDepth 100000
theorem chk_200 : ((List.range 8).all fun i => chkB (200 + i)) = true := by decide +kernel
theorem chk_208 : ((List.range 8).all fun i => chkB (208 + i)) = true := by decide +kernel
theorem chk_216 : ((List.range 8).all fun i => chkB (216 + i)) = true := by decide +kernel
theorem chk_224 : ((List.range 8).all fun i => chkB (224 + i)) = true := by decide +kernel
theorem chk_232 : ((List.range 8).all fun i => chkB (232 + i)) = true := by decide +kernel
end Go.Proofs.Th
