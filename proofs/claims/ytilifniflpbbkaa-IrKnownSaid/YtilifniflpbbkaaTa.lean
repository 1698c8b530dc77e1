/- Type assertions of ir's nodes. -/
import Derived.Laws.Entries
import Derived.Tactics
import Derived.Test.YtilifniflpbbkaaPick
namespace Go.Proofs.Ytilifniflpbbkaa
open Go.RowKit
theorem run_ta {P : Program} {w : World} {t xT asserted : TypeId} {v z : Value} (hu : ∃ G, P.underlying asserted = some (.struct G)) (hz : (P.info? asserted).map (·.zero) = some (some z)) :
    (Instr.typeAssert (.iface t v) xT asserted true).run P w = .ok (.tuple #[if t = asserted then v else z, .bool (decide (t = asserted))]) w := by
  obtain ⟨G, hu⟩ := hu
  obtain ⟨j, hj, hjz⟩ := Option.map_eq_some_iff.mp hz
  by_cases h : t = asserted
  · subst h; simp [Instr.typeAssert, run_underlying hu]
  · simp [Instr.typeAssert, run_underlying hu, h, zeroValue, typeInfo, hj, hjz]
theorem run_ta_nil {P : Program} {w : World} {xT asserted : TypeId} {z : Value} (hu : ∃ G, P.underlying asserted = some (.struct G)) (hz : (P.info? asserted).map (·.zero) = some (some z)) :
    (Instr.typeAssert .nilIface xT asserted true).run P w = .ok (.tuple #[z, .bool false]) w := by
  obtain ⟨G, hu⟩ := hu
  obtain ⟨j, hj, hjz⟩ := Option.map_eq_some_iff.mp hz
  simp [Instr.typeAssert, run_underlying hu, zeroValue, typeInfo, hj, hjz]
theorem taConst (w : World) (u : TypeId) (v : Value) : (Instr.typeAssert (.iface u v) 64 31 true).run Try.prog w = .ok (.tuple #[if u = 31 then v else (.agg #[.int .i64 0, .int .i32 0]), .bool (decide (u = 31))]) w := run_ta ⟨_, Try.underlying31⟩ (by kernel_rfl)
theorem tnConst (w : World) : (Instr.typeAssert .nilIface 64 31 true).run Try.prog w = .ok (.tuple #[.agg #[.int .i64 0, .int .i32 0], .bool false]) w := run_ta_nil ⟨_, Try.underlying31⟩ (by kernel_rfl)
theorem taMove (w : World) (u : TypeId) (v : Value) : (Instr.typeAssert (.iface u v) 64 47 true).run Try.prog w = .ok (.tuple #[if u = 47 then v else (.agg #[.int .i64 0, .int .i64 0]), .bool (decide (u = 47))]) w := run_ta ⟨_, Try.underlying47⟩ (by kernel_rfl)
theorem tnMove (w : World) : (Instr.typeAssert .nilIface 64 47 true).run Try.prog w = .ok (.tuple #[.agg #[.int .i64 0, .int .i64 0], .bool false]) w := run_ta_nil ⟨_, Try.underlying47⟩ (by kernel_rfl)
theorem taBin (w : World) (u : TypeId) (v : Value) : (Instr.typeAssert (.iface u v) 64 25 true).run Try.prog w = .ok (.tuple #[if u = 25 then v else (.agg #[.int .i64 0, .int .i64 0, .int .i64 0, .int .i64 0]), .bool (decide (u = 25))]) w := run_ta ⟨_, Try.underlying25⟩ (by kernel_rfl)
theorem tnBin (w : World) : (Instr.typeAssert .nilIface 64 25 true).run Try.prog w = .ok (.tuple #[.agg #[.int .i64 0, .int .i64 0, .int .i64 0, .int .i64 0], .bool false]) w := run_ta_nil ⟨_, Try.underlying25⟩ (by kernel_rfl)
theorem taUn (w : World) (u : TypeId) (v : Value) : (Instr.typeAssert (.iface u v) 64 49 true).run Try.prog w = .ok (.tuple #[if u = 49 then v else (.agg #[.int .i64 0, .int .i64 0, .int .i64 0]), .bool (decide (u = 49))]) w := run_ta ⟨_, Try.underlying49⟩ (by kernel_rfl)
theorem tnUn (w : World) : (Instr.typeAssert .nilIface 64 49 true).run Try.prog w = .ok (.tuple #[.agg #[.int .i64 0, .int .i64 0, .int .i64 0], .bool false]) w := run_ta_nil ⟨_, Try.underlying49⟩ (by kernel_rfl)
theorem taChoose (w : World) (u : TypeId) (v : Value) : (Instr.typeAssert (.iface u v) 64 27 true).run Try.prog w = .ok (.tuple #[if u = 27 then v else (.agg #[.int .i64 0, .int .i64 0, .int .i64 0, .int .i64 0]), .bool (decide (u = 27))]) w := run_ta ⟨_, Try.underlying27⟩ (by kernel_rfl)
theorem tnChoose (w : World) : (Instr.typeAssert .nilIface 64 27 true).run Try.prog w = .ok (.tuple #[.agg #[.int .i64 0, .int .i64 0, .int .i64 0, .int .i64 0], .bool false]) w := run_ta_nil ⟨_, Try.underlying27⟩ (by kernel_rfl)
theorem taTick (w : World) (u : TypeId) (v : Value) : (Instr.typeAssert (.iface u v) 64 33 true).run Try.prog w = .ok (.tuple #[if u = 33 then v else (.agg #[]), .bool (decide (u = 33))]) w := run_ta ⟨_, Try.underlying33⟩ (by kernel_rfl)
theorem tnTick (w : World) : (Instr.typeAssert .nilIface 64 33 true).run Try.prog w = .ok (.tuple #[.agg #[], .bool false]) w := run_ta_nil ⟨_, Try.underlying33⟩ (by kernel_rfl)
theorem taGoto (w : World) (u : TypeId) (v : Value) : (Instr.typeAssert (.iface u v) 64 51 true).run Try.prog w = .ok (.tuple #[if u = 51 then v else (.agg #[.int .i64 0]), .bool (decide (u = 51))]) w := run_ta ⟨_, Try.underlying51⟩ (by kernel_rfl)
theorem tnGoto (w : World) : (Instr.typeAssert .nilIface 64 51 true).run Try.prog w = .ok (.tuple #[.agg #[.int .i64 0], .bool false]) w := run_ta_nil ⟨_, Try.underlying51⟩ (by kernel_rfl)
theorem taBranch (w : World) (u : TypeId) (v : Value) : (Instr.typeAssert (.iface u v) 64 29 true).run Try.prog w = .ok (.tuple #[if u = 29 then v else (.agg #[.int .i64 0, .int .i64 0]), .bool (decide (u = 29))]) w := run_ta ⟨_, Try.underlying29⟩ (by kernel_rfl)
theorem tnBranch (w : World) : (Instr.typeAssert .nilIface 64 29 true).run Try.prog w = .ok (.tuple #[.agg #[.int .i64 0, .int .i64 0], .bool false]) w := run_ta_nil ⟨_, Try.underlying29⟩ (by kernel_rfl)
theorem taGetField (w : World) (u : TypeId) (v : Value) : (Instr.typeAssert (.iface u v) 64 53 true).run Try.prog w = .ok (.tuple #[if u = 53 then v else (.agg #[.int .i64 0, .int .i64 0]), .bool (decide (u = 53))]) w := run_ta ⟨_, Try.underlying53⟩ (by kernel_rfl)
theorem tnGetField (w : World) : (Instr.typeAssert .nilIface 64 53 true).run Try.prog w = .ok (.tuple #[.agg #[.int .i64 0, .int .i64 0], .bool false]) w := run_ta_nil ⟨_, Try.underlying53⟩ (by kernel_rfl)
theorem taPutField (w : World) (u : TypeId) (v : Value) : (Instr.typeAssert (.iface u v) 64 55 true).run Try.prog w = .ok (.tuple #[if u = 55 then v else (.agg #[.int .i64 0, .int .i64 0]), .bool (decide (u = 55))]) w := run_ta ⟨_, Try.underlying55⟩ (by kernel_rfl)
theorem tnPutField (w : World) : (Instr.typeAssert .nilIface 64 55 true).run Try.prog w = .ok (.tuple #[.agg #[.int .i64 0, .int .i64 0], .bool false]) w := run_ta_nil ⟨_, Try.underlying55⟩ (by kernel_rfl)
theorem taServe (w : World) (u : TypeId) (v : Value) : (Instr.typeAssert (.iface u v) 64 58 true).run Try.prog w = .ok (.tuple #[if u = 58 then v else (.agg #[.int .i64 0, .int .i64 0, .int .i64 0, .int .i64 0, .slice none 0 0]), .bool (decide (u = 58))]) w := run_ta ⟨_, Try.underlying58⟩ (by kernel_rfl)
theorem tnServe (w : World) : (Instr.typeAssert .nilIface 64 58 true).run Try.prog w = .ok (.tuple #[.agg #[.int .i64 0, .int .i64 0, .int .i64 0, .int .i64 0, .slice none 0 0], .bool false]) w := run_ta_nil ⟨_, Try.underlying58⟩ (by kernel_rfl)
theorem taCall (w : World) (u : TypeId) (v : Value) : (Instr.typeAssert (.iface u v) 64 60 true).run Try.prog w = .ok (.tuple #[if u = 60 then v else (.agg #[.int .i64 0, .int .i64 0, .slice none 0 0]), .bool (decide (u = 60))]) w := run_ta ⟨_, Try.underlying60⟩ (by kernel_rfl)
theorem tnCall (w : World) : (Instr.typeAssert .nilIface 64 60 true).run Try.prog w = .ok (.tuple #[.agg #[.int .i64 0, .int .i64 0, .slice none 0 0], .bool false]) w := run_ta_nil ⟨_, Try.underlying60⟩ (by kernel_rfl)
theorem taCallX (w : World) (u : TypeId) (v : Value) : (Instr.typeAssert (.iface u v) 64 62 true).run Try.prog w = .ok (.tuple #[if u = 62 then v else (.agg #[.int .i64 0, .int .i64 0, .slice none 0 0]), .bool (decide (u = 62))]) w := run_ta ⟨_, Try.underlying62⟩ (by kernel_rfl)
theorem tnCallX (w : World) : (Instr.typeAssert .nilIface 64 62 true).run Try.prog w = .ok (.tuple #[.agg #[.int .i64 0, .int .i64 0, .slice none 0 0], .bool false]) w := run_ta_nil ⟨_, Try.underlying62⟩ (by kernel_rfl)
theorem taRet (w : World) (u : TypeId) (v : Value) : (Instr.typeAssert (.iface u v) 64 35 true).run Try.prog w = .ok (.tuple #[if u = 35 then v else (.agg #[.int .i64 0]), .bool (decide (u = 35))]) w := run_ta ⟨_, Try.underlying35⟩ (by kernel_rfl)
theorem tnRet (w : World) : (Instr.typeAssert .nilIface 64 35 true).run Try.prog w = .ok (.tuple #[.agg #[.int .i64 0], .bool false]) w := run_ta_nil ⟨_, Try.underlying35⟩ (by kernel_rfl)
end Go.Proofs.Ytilifniflpbbkaa
