/- Thumb: reckoned out, halfword by halfword: plain. No program in sight. -/
import Derived.Test.YtpcjkllhieiiiaaTh9
namespace Go.Proofs.Th
open Go.RowKit Go.Proofs.On
set_option maxRecDepth 100000
theorem chk_40 : ((List.range 8).all fun i => chkB (40 + i)) = true := by decide +kernel
theorem chk_48 : ((List.range 8).all fun i => chkB (48 + i)) = true := by decide +kernel
theorem chk_56 : ((List.range 8).all fun i => chkB (56 + i)) = true := by decide +kernel
theorem chk_64 : ((List.range 8).all fun i => chkB (64 + i)) = true := by decide +kernel
theorem chk_72 : ((List.range 8).all fun i => chkB (72 + i)) = true := by decide +kernel
end Go.Proofs.Th
