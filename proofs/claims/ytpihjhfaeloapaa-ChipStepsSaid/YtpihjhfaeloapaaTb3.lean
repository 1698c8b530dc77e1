/- Thumb: reckoned out, instruction by instruction: plain. No program in sight. -/
import Derived.Test.YtpihjhfaeloapaaVb
namespace Go.Proofs.Th
open Go.RowKit Go.Proofs.On
set_option maxRecDepth 100000
theorem backAll_31 : backAll 31 = true := by decide +kernel
theorem backAll_32 : backAll 32 = true := by decide +kernel
theorem backAll_33 : backAll 33 = true := by decide +kernel
theorem backAll_34 : backAll 34 = true := by decide +kernel
end Go.Proofs.Th
