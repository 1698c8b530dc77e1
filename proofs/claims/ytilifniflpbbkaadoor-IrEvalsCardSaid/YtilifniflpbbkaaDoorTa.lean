/- Type assertions of ir's nodes. -/
import Derived.Laws.Entries
import Derived.Tactics
import Derived.Test.YtilifniflpbbkaaDoorPick
namespace Go.Proofs.YtilifniflpbbkaaDoor
open Go.RowKit
theorem run_ta {P : Program} {w : World} {t xT asserted : TypeId} {v z : Value} (hu : ∃ G, P.underlying asserted = some (.struct G)) (hz : (P.info? asserted).map (·.zero) = some (some z)) :
    (Instr.typeAssert (.iface t v) xT asserted true).run P w = .ok (.tuple #[if t = asserted then v else z, .bool (decide (t = asserted))]) w := by
  obtain ⟨G, hu⟩ := hu
  obtain ⟨j, hj, hjz⟩ := Option.map_eq_some_iff.mp hz
  by_cases h : t = asserted
  · subst h; simp [Instr.typeAssert, run_underlying hu]
  · simp [Instr.typeAssert, run_underlying hu, h, zeroValue, typeInfo, hj, hjz]
theorem run_ta_nil {P : Program} {w : World} {xT asserted : TypeId} {z : Value} (hu : ∃ G, P.underlying asserted = some (.struct G)) (hz : (P.info? asserted).map (·.zero) = some (some z)) :
    (Instr.typeAssert .nilIface xT asserted true).run P w = .ok (.tuple #[z, .bool false]) w := by
  obtain ⟨G, hu⟩ := hu
  obtain ⟨j, hj, hjz⟩ := Option.map_eq_some_iff.mp hz
  simp [Instr.typeAssert, run_underlying hu, zeroValue, typeInfo, hj, hjz]
theorem taConst (w : World) (u : TypeId) (v : Value) : (Instr.typeAssert (.iface u v) 26 66 true).run Tryd.prog w = .ok (.tuple #[if u = 66 then v else (.agg #[.int .i64 0, .int .i32 0]), .bool (decide (u = 66))]) w := run_ta ⟨_, Tryd.underlying66⟩ (by kernel_rfl)
theorem tnConst (w : World) : (Instr.typeAssert .nilIface 26 66 true).run Tryd.prog w = .ok (.tuple #[.agg #[.int .i64 0, .int .i32 0], .bool false]) w := run_ta_nil ⟨_, Tryd.underlying66⟩ (by kernel_rfl)
theorem taMove (w : World) (u : TypeId) (v : Value) : (Instr.typeAssert (.iface u v) 26 68 true).run Tryd.prog w = .ok (.tuple #[if u = 68 then v else (.agg #[.int .i64 0, .int .i64 0]), .bool (decide (u = 68))]) w := run_ta ⟨_, Tryd.underlying68⟩ (by kernel_rfl)
theorem tnMove (w : World) : (Instr.typeAssert .nilIface 26 68 true).run Tryd.prog w = .ok (.tuple #[.agg #[.int .i64 0, .int .i64 0], .bool false]) w := run_ta_nil ⟨_, Tryd.underlying68⟩ (by kernel_rfl)
theorem taBin (w : World) (u : TypeId) (v : Value) : (Instr.typeAssert (.iface u v) 26 71 true).run Tryd.prog w = .ok (.tuple #[if u = 71 then v else (.agg #[.int .i64 0, .int .i64 0, .int .i64 0, .int .i64 0]), .bool (decide (u = 71))]) w := run_ta ⟨_, Tryd.underlying71⟩ (by kernel_rfl)
theorem tnBin (w : World) : (Instr.typeAssert .nilIface 26 71 true).run Tryd.prog w = .ok (.tuple #[.agg #[.int .i64 0, .int .i64 0, .int .i64 0, .int .i64 0], .bool false]) w := run_ta_nil ⟨_, Tryd.underlying71⟩ (by kernel_rfl)
theorem taUn (w : World) (u : TypeId) (v : Value) : (Instr.typeAssert (.iface u v) 26 74 true).run Tryd.prog w = .ok (.tuple #[if u = 74 then v else (.agg #[.int .i64 0, .int .i64 0, .int .i64 0]), .bool (decide (u = 74))]) w := run_ta ⟨_, Tryd.underlying74⟩ (by kernel_rfl)
theorem tnUn (w : World) : (Instr.typeAssert .nilIface 26 74 true).run Tryd.prog w = .ok (.tuple #[.agg #[.int .i64 0, .int .i64 0, .int .i64 0], .bool false]) w := run_ta_nil ⟨_, Tryd.underlying74⟩ (by kernel_rfl)
theorem taChoose (w : World) (u : TypeId) (v : Value) : (Instr.typeAssert (.iface u v) 26 76 true).run Tryd.prog w = .ok (.tuple #[if u = 76 then v else (.agg #[.int .i64 0, .int .i64 0, .int .i64 0, .int .i64 0]), .bool (decide (u = 76))]) w := run_ta ⟨_, Tryd.underlying76⟩ (by kernel_rfl)
theorem tnChoose (w : World) : (Instr.typeAssert .nilIface 26 76 true).run Tryd.prog w = .ok (.tuple #[.agg #[.int .i64 0, .int .i64 0, .int .i64 0, .int .i64 0], .bool false]) w := run_ta_nil ⟨_, Tryd.underlying76⟩ (by kernel_rfl)
theorem taTick (w : World) (u : TypeId) (v : Value) : (Instr.typeAssert (.iface u v) 26 49 true).run Tryd.prog w = .ok (.tuple #[if u = 49 then v else (.agg #[]), .bool (decide (u = 49))]) w := run_ta ⟨_, Tryd.underlying49⟩ (by kernel_rfl)
theorem tnTick (w : World) : (Instr.typeAssert .nilIface 26 49 true).run Tryd.prog w = .ok (.tuple #[.agg #[], .bool false]) w := run_ta_nil ⟨_, Tryd.underlying49⟩ (by kernel_rfl)
theorem taGoto (w : World) (u : TypeId) (v : Value) : (Instr.typeAssert (.iface u v) 26 78 true).run Tryd.prog w = .ok (.tuple #[if u = 78 then v else (.agg #[.int .i64 0]), .bool (decide (u = 78))]) w := run_ta ⟨_, Tryd.underlying78⟩ (by kernel_rfl)
theorem tnGoto (w : World) : (Instr.typeAssert .nilIface 26 78 true).run Tryd.prog w = .ok (.tuple #[.agg #[.int .i64 0], .bool false]) w := run_ta_nil ⟨_, Tryd.underlying78⟩ (by kernel_rfl)
theorem taBranch (w : World) (u : TypeId) (v : Value) : (Instr.typeAssert (.iface u v) 26 80 true).run Tryd.prog w = .ok (.tuple #[if u = 80 then v else (.agg #[.int .i64 0, .int .i64 0]), .bool (decide (u = 80))]) w := run_ta ⟨_, Tryd.underlying80⟩ (by kernel_rfl)
theorem tnBranch (w : World) : (Instr.typeAssert .nilIface 26 80 true).run Tryd.prog w = .ok (.tuple #[.agg #[.int .i64 0, .int .i64 0], .bool false]) w := run_ta_nil ⟨_, Tryd.underlying80⟩ (by kernel_rfl)
theorem taGetField (w : World) (u : TypeId) (v : Value) : (Instr.typeAssert (.iface u v) 26 82 true).run Tryd.prog w = .ok (.tuple #[if u = 82 then v else (.agg #[.int .i64 0, .int .i64 0]), .bool (decide (u = 82))]) w := run_ta ⟨_, Tryd.underlying82⟩ (by kernel_rfl)
theorem tnGetField (w : World) : (Instr.typeAssert .nilIface 26 82 true).run Tryd.prog w = .ok (.tuple #[.agg #[.int .i64 0, .int .i64 0], .bool false]) w := run_ta_nil ⟨_, Tryd.underlying82⟩ (by kernel_rfl)
theorem taPutField (w : World) (u : TypeId) (v : Value) : (Instr.typeAssert (.iface u v) 26 84 true).run Tryd.prog w = .ok (.tuple #[if u = 84 then v else (.agg #[.int .i64 0, .int .i64 0]), .bool (decide (u = 84))]) w := run_ta ⟨_, Tryd.underlying84⟩ (by kernel_rfl)
theorem tnPutField (w : World) : (Instr.typeAssert .nilIface 26 84 true).run Tryd.prog w = .ok (.tuple #[.agg #[.int .i64 0, .int .i64 0], .bool false]) w := run_ta_nil ⟨_, Tryd.underlying84⟩ (by kernel_rfl)
theorem taServe (w : World) (u : TypeId) (v : Value) : (Instr.typeAssert (.iface u v) 26 87 true).run Tryd.prog w = .ok (.tuple #[if u = 87 then v else (.agg #[.int .i64 0, .int .i64 0, .int .i64 0, .int .i64 0, .slice none 0 0]), .bool (decide (u = 87))]) w := run_ta ⟨_, Tryd.underlying87⟩ (by kernel_rfl)
theorem tnServe (w : World) : (Instr.typeAssert .nilIface 26 87 true).run Tryd.prog w = .ok (.tuple #[.agg #[.int .i64 0, .int .i64 0, .int .i64 0, .int .i64 0, .slice none 0 0], .bool false]) w := run_ta_nil ⟨_, Tryd.underlying87⟩ (by kernel_rfl)
theorem taCall (w : World) (u : TypeId) (v : Value) : (Instr.typeAssert (.iface u v) 26 89 true).run Tryd.prog w = .ok (.tuple #[if u = 89 then v else (.agg #[.int .i64 0, .int .i64 0, .slice none 0 0]), .bool (decide (u = 89))]) w := run_ta ⟨_, Tryd.underlying89⟩ (by kernel_rfl)
theorem tnCall (w : World) : (Instr.typeAssert .nilIface 26 89 true).run Tryd.prog w = .ok (.tuple #[.agg #[.int .i64 0, .int .i64 0, .slice none 0 0], .bool false]) w := run_ta_nil ⟨_, Tryd.underlying89⟩ (by kernel_rfl)
theorem taCallX (w : World) (u : TypeId) (v : Value) : (Instr.typeAssert (.iface u v) 26 91 true).run Tryd.prog w = .ok (.tuple #[if u = 91 then v else (.agg #[.int .i64 0, .int .i64 0, .slice none 0 0]), .bool (decide (u = 91))]) w := run_ta ⟨_, Tryd.underlying91⟩ (by kernel_rfl)
theorem tnCallX (w : World) : (Instr.typeAssert .nilIface 26 91 true).run Tryd.prog w = .ok (.tuple #[.agg #[.int .i64 0, .int .i64 0, .slice none 0 0], .bool false]) w := run_ta_nil ⟨_, Tryd.underlying91⟩ (by kernel_rfl)
theorem taRet (w : World) (u : TypeId) (v : Value) : (Instr.typeAssert (.iface u v) 26 51 true).run Tryd.prog w = .ok (.tuple #[if u = 51 then v else (.agg #[.int .i64 0]), .bool (decide (u = 51))]) w := run_ta ⟨_, Tryd.underlying51⟩ (by kernel_rfl)
theorem tnRet (w : World) : (Instr.typeAssert .nilIface 26 51 true).run Tryd.prog w = .ok (.tuple #[.agg #[.int .i64 0], .bool false]) w := run_ta_nil ⟨_, Tryd.underlying51⟩ (by kernel_rfl)
end Go.Proofs.YtilifniflpbbkaaDoor
