/- Thumb: reckoned out, halfword by halfword: plain. No program in sight. -/
import Derived.Test.YtpcjkllhieiiiaaTh9
namespace Go.Proofs.Th
open Go.RowKit Go.Proofs.On
set_option maxRecDepth 100000
theorem chk_248 : ((List.range 8).all fun i => chkB (248 + i)) = true := by decide +kernel
end Go.Proofs.Th
