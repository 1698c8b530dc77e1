/- Thumb: reckoned out, instruction by instruction: plain. No program in sight. -/
import Derived.Test.YtpihjhfaeloapaaVb
namespace Go.Proofs.Th
open Go.RowKit Go.Proofs.On
set_option maxRecDepth 100000
theorem backAll_8 : backAll 8 = true := by decide +kernel
theorem backAll_9 : backAll 9 = true := by decide +kernel
theorem backAll_10 : backAll 10 = true := by decide +kernel
theorem backAll_11 : backAll 11 = true := by decide +kernel
end Go.Proofs.Th
