/- MERGED by mergev.py: XTk1 XTk2 XTk3. -/
import Derived.Test.YtpihjhfaeloapaaVb
namespace Go.Proofs.Th
open Go.RowKit Go.Proofs.On
set_option maxRecDepth 100000
theorem chk_0 : ((List.range 8).all fun i => chkB (0 + i)) = true := by decide +kernel
theorem chk_8 : ((List.range 8).all fun i => chkB (8 + i)) = true := by decide +kernel
theorem chk_16 : ((List.range 8).all fun i => chkB (16 + i)) = true := by decide +kernel
theorem chk_24 : ((List.range 8).all fun i => chkB (24 + i)) = true := by decide +kernel
theorem chk_32 : ((List.range 8).all fun i => chkB (32 + i)) = true := by decide +kernel
end Go.Proofs.Th
namespace Go.Proofs.Th
open Go.RowKit Go.Proofs.On
set_option maxRecDepth 100000
theorem chk_40 : ((List.range 8).all fun i => chkB (40 + i)) = true := by decide +kernel
theorem chk_48 : ((List.range 8).all fun i => chkB (48 + i)) = true := by decide +kernel
theorem chk_56 : ((List.range 8).all fun i => chkB (56 + i)) = true := by decide +kernel
theorem chk_64 : ((List.range 8).all fun i => chkB (64 + i)) = true := by decide +kernel
theorem chk_72 : ((List.range 8).all fun i => chkB (72 + i)) = true := by decide +kernel
end Go.Proofs.Th
namespace Go.Proofs.Th
open Go.RowKit Go.Proofs.On
set_option maxRecDepth 100000
theorem chk_80 : ((List.range 8).all fun i => chkB (80 + i)) = true := by decide +kernel
theorem chk_88 : ((List.range 8).all fun i => chkB (88 + i)) = true := by decide +kernel
theorem chk_96 : ((List.range 8).all fun i => chkB (96 + i)) = true := by decide +kernel
theorem chk_104 : ((List.range 8).all fun i => chkB (104 + i)) = true := by decide +kernel
theorem chk_112 : ((List.range 8).all fun i => chkB (112 + i)) = true := by decide +kernel
end Go.Proofs.Th
