/- Thumb: reckoned out, instruction by instruction: plain. No program in sight. -/
import Derived.Test.YtpihjhfaeloapaaVb
namespace Go.Proofs.Th
open Go.RowKit Go.Proofs.On
set_option maxRecDepth 100000
theorem backAll_4 : backAll 4 = true := by decide +kernel
theorem backAll_5 : backAll 5 = true := by decide +kernel
theorem backAll_6 : backAll 6 = true := by decide +kernel
theorem backAll_7 : backAll 7 = true := by decide +kernel
theorem backAll_29 : backAll 29 = true := by decide +kernel
theorem backAll_30 : backAll 30 = true := by decide +kernel
theorem backAll_12 : backAll 12 = true := by decide +kernel
theorem backAll_13 : backAll 13 = true := by decide +kernel
theorem backAll_14 : backAll 14 = true := by decide +kernel
theorem backAll_15 : backAll 15 = true := by decide +kernel
theorem backAll_16 : backAll 16 = true := by decide +kernel
theorem backAll_17 : backAll 17 = true := by decide +kernel
theorem backAll_18 : backAll 18 = true := by decide +kernel
theorem backAll_19 : backAll 19 = true := by decide +kernel
theorem backAll_20 : backAll 20 = true := by decide +kernel
theorem backAll_21 : backAll 21 = true := by decide +kernel
theorem backAll_22 : backAll 22 = true := by decide +kernel
theorem backAll_23 : backAll 23 = true := by decide +kernel
theorem backAll_24 : backAll 24 = true := by decide +kernel
theorem backAll_25 : backAll 25 = true := by decide +kernel
theorem backAll_26 : backAll 26 = true := by decide +kernel
theorem backAll_27 : backAll 27 = true := by decide +kernel
theorem backAll_37 : backAll 37 = true := by decide +kernel
theorem backAll_38 : backAll 38 = true := by decide +kernel
theorem backAll_39 : backAll 39 = true := by decide +kernel
theorem backAll_40 : backAll 40 = true := by decide +kernel
theorem backAll_44 : backAll 44 = true := by decide +kernel
theorem backAll_45 : backAll 45 = true := by decide +kernel
end Go.Proofs.Th
