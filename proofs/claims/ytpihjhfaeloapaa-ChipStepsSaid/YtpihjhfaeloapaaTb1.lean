/- Thumb: reckoned out, instruction by instruction: plain. No program in sight. -/
import Derived.Test.YtpihjhfaeloapaaVb
namespace Go.Proofs.Th
open Go.RowKit Go.Proofs.On
set_option maxRecDepth 100000
theorem backAll_1 : backAll 1 = true := by decide +kernel
theorem backAll_2 : backAll 2 = true := by decide +kernel
theorem backAll_3 : backAll 3 = true := by decide +kernel
end Go.Proofs.Th
