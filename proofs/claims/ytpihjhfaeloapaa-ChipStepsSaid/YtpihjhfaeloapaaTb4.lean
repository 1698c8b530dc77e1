/- Thumb: reckoned out, instruction by instruction: plain. No program in sight. -/
import Derived.Test.YtpihjhfaeloapaaVb
namespace Go.Proofs.Th
open Go.RowKit Go.Proofs.On
set_option maxRecDepth 100000
theorem backAll_35 : backAll 35 = true := by decide +kernel
theorem backAll_36 : backAll 36 = true := by decide +kernel
theorem backAll_41 : backAll 41 = true := by decide +kernel
theorem backAll_42 : backAll 42 = true := by decide +kernel
end Go.Proofs.Th
