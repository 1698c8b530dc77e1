/- The document's Step: compares, bitwise. PRINTED by gense.py. -/
import Derived.Test.YtpihjhfaeloapaaVl
import Derived.Test.YtpihjhfaeloapaaVk
import Derived.Test.YtpihjhfaeloapaaSh
import Derived.BigQuiet
import Derived.Deep.QuietTactic
import Derived.Deep.RegionHeld3
namespace Go.Proofs.Ytpihjhfaeloapaa
open Go.RowKit On Th
set_option maxHeartbeats 16000000 in
set_option maxRecDepth 100000 in
theorem rarm_9 : rsw.1 9 := by
  delta rsw
  dsimp only
  intro c _ _ _ f hst _ _ _ hpc _ _ _ _ _ _ _ _ _ _ _ _ _ _ _ _ _ _ _ _ _ _ _ _ _ _ _ k imm _ _ _ _ _ wA _ HWS dn _ _ _ _ _ _ _ _ HF HIR HRT _ _ _ _ _ _ rd hrd _ _ _ _ _ _ _ _ _ _ HMA _ cp HCA _ _ _ hws2 hJ
  have hf1 := HCA.out.1.frozen dn
  have hk : k = 1 := by simpa using HIR.out.2
  subst hk
  obtain ⟨l1, l2, l3⟩ := low15 HRT.out (by simp)
  have HUrd : Hid (U rd) := by show U _; rw [← hrd]; exact HCA.out.2.reg (by omega)
  have HUk : Hid (U imm) := by show U _; have := HIR.out.1.low0 (by simp); have := HIR.out.1.low (by simp); dsimp only at *; unfold U; omega
  have him : imm % 4294967296 = imm := by have := HUk.out; unfold U at this; omega
  have hx := xor_max imm HUk.out
  have hxi : bits .xor .u32 (if IntKind.u32.signed = true then -1 else IntKind.u32.max) imm = 4294967295 - imm := hx
  have HCD : Hid (ChW wA cp c) := HCA.out.only (S := fun _ => False) (Only.refl _ _) id
  go_wp2_with fail
  refine (add_c _ cp c rd (4294967295 - imm) true HCD.out HUrd.out (U.neg HUk.out)).mono ?_
  rintro e w2 ⟨rfl, hc2, ho2⟩
  go_wp2_with fail
  have hO : Only (fun j => j = cp) wA w2 := ho2
  obtain ⟨a1, a2⟩ := rapart HCA.out HMA.out
  refine rmeet hJ rfl (c.addF rd (4294967295 - imm) true) f ⟨by omega, by omega⟩ hc2 (HWS.out.only hO (fun e => hws2 e.symm)) (rm_only HMA.out hO a1 a2) (hO.mono (fun _ _ h => .inl h)) (fun h => by cases h) (fun _ mp => ?_)
  refine sp_end hst hpc HF (s' := Sp.sum (c.sp mp _) ((c.sp mp _).c.R.getD dn 0) (4294967295 - imm) true) (by rfl) rfl ?_ rfl rfl
  unfold Sp.sum Sp.sign Ch.sp Ch.addF
  dsimp only
  rw [get15 _ (by omega), hrd, hpc]
  rfl
set_option maxHeartbeats 16000000 in
set_option maxRecDepth 100000 in
theorem rarm_22 : rsw.1 22 := by
  delta rsw
  dsimp only
  intro c _ _ _ f hst _ _ _ hpc _ _ _ _ _ _ _ _ _ _ _ _ _ _ _ _ _ _ _ _ _ _ _ _ _ _ _ k _ _ _ _ _ _ wA _ HWS dn _ _ _ _ _ mn _ _ HF HIR HRT _ _ _ _ _ _ rd hrd _ _ rm' hrm _ _ _ _ _ _ HMA _ cp HCA _ _ _ hws2 hJ
  have hf1 := HCA.out.1.frozen dn
  have hk : k = 1 := by simpa using HIR.out.2
  subst hk
  obtain ⟨l1, l2, l3⟩ := low15 HRT.out (by simp)
  have HUrd : Hid (U rd) := by show U _; rw [← hrd]; exact HCA.out.2.reg (by omega)
  have HUrm : Hid (U rm') := by show U _; rw [← hrm]; exact HCA.out.2.reg (by omega)
  have hx := xor_max rm' HUrm.out
  have hxi : bits .xor .u32 (if IntKind.u32.signed = true then -1 else IntKind.u32.max) rm' = 4294967295 - rm' := hx
  have HCD : Hid (ChW wA cp c) := HCA.out.only (S := fun _ => False) (Only.refl _ _) id
  go_wp2_with fail
  refine (add_c _ cp c rd (4294967295 - rm') true HCD.out HUrd.out (U.neg HUrm.out)).mono ?_
  rintro e w2 ⟨rfl, hc2, ho2⟩
  go_wp2_with fail
  have hO : Only (fun j => j = cp) wA w2 := ho2
  obtain ⟨a1, a2⟩ := rapart HCA.out HMA.out
  refine rmeet hJ rfl (c.addF rd (4294967295 - rm') true) f ⟨by omega, by omega⟩ hc2 (HWS.out.only hO (fun e => hws2 e.symm)) (rm_only HMA.out hO a1 a2) (hO.mono (fun _ _ h => .inl h)) (fun h => by cases h) (fun _ mp => ?_)
  refine sp_end hst hpc HF (s' := Sp.sum (c.sp mp _) ((c.sp mp _).c.R.getD dn 0) (4294967295 - ((c.sp mp _).c.R.getD mn 0)) true) (by rfl) rfl ?_ rfl rfl
  unfold Sp.sum Sp.sign Ch.sp Ch.addF
  dsimp only
  rw [get15 _ (by omega), get15 _ (by omega), hrd, hrm, hpc]
  rfl
set_option maxHeartbeats 16000000 in
set_option maxRecDepth 100000 in
theorem rarm_23 : rsw.1 23 := by
  delta rsw
  dsimp only
  intro c _ _ _ f hst _ _ _ hpc _ _ _ _ _ _ _ _ _ _ _ _ _ _ _ _ _ _ _ _ _ _ _ _ _ d _ k _ _ _ _ _ _ wA _ HWS dn _ _ _ _ _ mn _ _ HF HIR HRT _ _ _ _ _ _ rd hrd _ _ rm' hrm _ _ _ _ _ _ HMA _ cp HCA _ _ _ hws2 hJ
  have hf1 := HCA.out.1.frozen dn
  have hk : k = 1 := by simpa using HIR.out.2
  subst hk
  obtain ⟨l1, l2, l3⟩ := low15 HRT.out (by simp)
  have HUrd : Hid (U rd) := by show U _; rw [← hrd]; exact HCA.out.2.reg (by omega)
  have HUrm : Hid (U rm') := by show U _; rw [← hrm]; exact HCA.out.2.reg (by omega)
  have HCD : Hid (ChW wA cp c) := HCA.out.only (S := fun _ => False) (Only.refl _ _) id
  go_wp2_with fail
  refine (add_c _ cp c rd rm' false HCD.out HUrd.out HUrm.out).mono ?_
  rintro e w2 ⟨rfl, hc2, ho2⟩
  go_wp2_with fail
  have hO : Only (fun j => j = cp) wA w2 := ho2
  obtain ⟨a1, a2⟩ := rapart HCA.out HMA.out
  refine rmeet hJ rfl (c.addF rd rm' false) f ⟨by omega, by omega⟩ hc2 (HWS.out.only hO (fun e => hws2 e.symm)) (rm_only HMA.out hO a1 a2) (hO.mono (fun _ _ h => .inl h)) (fun h => by cases h) (fun _ mp => ?_)
  refine sp_end hst hpc HF (s' := Sp.sum (c.sp mp _) ((c.sp mp _).c.R.getD dn 0) ((c.sp mp _).c.R.getD mn 0) false) (by rfl) rfl ?_ rfl rfl
  unfold Sp.sum Sp.sign Ch.sp Ch.addF
  dsimp only
  rw [get15 _ (by omega), get15 _ (by omega), hrd, hrm, hpc]
  rfl
theorem idx7_0 (a b c d e f g : Int) : ∀ w, (Instr.index 98 (.agg #[.int .u32 a, .int .u32 b, .int .u32 c, .int .u32 d, .int .u32 e, .int .u32 f, .int .u32 g]) (.int .i64 0)).run Try.prog w = .ok (.int .u32 a) w := fun _ => by kernel_rfl
theorem idx7_1 (a b c d e f g : Int) : ∀ w, (Instr.index 98 (.agg #[.int .u32 a, .int .u32 b, .int .u32 c, .int .u32 d, .int .u32 e, .int .u32 f, .int .u32 g]) (.int .i64 1)).run Try.prog w = .ok (.int .u32 b) w := fun _ => by kernel_rfl
theorem idx7_2 (a b c d e f g : Int) : ∀ w, (Instr.index 98 (.agg #[.int .u32 a, .int .u32 b, .int .u32 c, .int .u32 d, .int .u32 e, .int .u32 f, .int .u32 g]) (.int .i64 2)).run Try.prog w = .ok (.int .u32 c) w := fun _ => by kernel_rfl
theorem idx7_3 (a b c d e f g : Int) : ∀ w, (Instr.index 98 (.agg #[.int .u32 a, .int .u32 b, .int .u32 c, .int .u32 d, .int .u32 e, .int .u32 f, .int .u32 g]) (.int .i64 3)).run Try.prog w = .ok (.int .u32 d) w := fun _ => by kernel_rfl
theorem idx7_4 (a b c d e f g : Int) : ∀ w, (Instr.index 98 (.agg #[.int .u32 a, .int .u32 b, .int .u32 c, .int .u32 d, .int .u32 e, .int .u32 f, .int .u32 g]) (.int .i64 4)).run Try.prog w = .ok (.int .u32 e) w := fun _ => by kernel_rfl
theorem idx7_5 (a b c d e f g : Int) : ∀ w, (Instr.index 98 (.agg #[.int .u32 a, .int .u32 b, .int .u32 c, .int .u32 d, .int .u32 e, .int .u32 f, .int .u32 g]) (.int .i64 5)).run Try.prog w = .ok (.int .u32 f) w := fun _ => by kernel_rfl
theorem idx7_6 (a b c d e f g : Int) : ∀ w, (Instr.index 98 (.agg #[.int .u32 a, .int .u32 b, .int .u32 c, .int .u32 d, .int .u32 e, .int .u32 f, .int .u32 g]) (.int .i64 6)).run Try.prog w = .ok (.int .u32 g) w := fun _ => by kernel_rfl
set_option maxHeartbeats 16000000 in
set_option maxRecDepth 100000 in
theorem rarm_8 : rsw.1 8 := by
  delta rsw
  dsimp only
  intro c _ _ _ f hst _ _ _ hpc _ _ _ _ _ _ _ _ _ _ _ _ _ _ _ _ _ _ _ _ _ _ _ _ _ _ _ k imm _ _ _ _ _ wA _ HWS dn _ _ _ _ _ _ _ _ HF HIR HRT _ _ _ _ _ _ rd hrd _ _ rm' hrm _ _ _ _ _ _ HMA _ cp HCA _ _ _ hws2 hJ
  have hf1 := HCA.out.1.frozen dn
  have hk : k = 1 := by simpa using HIR.out.2
  subst hk
  obtain ⟨l1, l2, l3⟩ := low15 HRT.out (by simp)
  have HUrd : Hid (U rd) := by show U _; rw [← hrd]; exact HCA.out.2.reg (by omega)
  have HUrm : Hid (U rm') := by show U _; rw [← hrm]; exact HCA.out.2.reg (by omega)
  have HUk : Hid (U imm) := by show U _; have := HIR.out.1.low0 (by simp); have := HIR.out.1.low (by simp); dsimp only at *; unfold U; omega
  have him : imm % 4294967296 = imm := by have := HUk.out; unfold U at this; omega
  have HUV := Lib.hid HUk.out
  have hdi : (dn : Int) < 16 := by omega
  obtain ⟨a1, a2⟩ := rapart HCA.out HMA.out
  have q0 := HCA.out.reg (k := dn) (by omega)
  have h2 := HCA.out.setReg (k := dn) (by omega) HUk.out
  have HNZ := Lib.hid (nz_c _ cp _ imm h2 HUk.out)
  have HO2 := Lib.hid ((Only.refl (fun k => k = cp) wA).setCell (p := ⟨cp, dn, none⟩) (.inl rfl) (.int .u32 imm))
  clear h2
  go_wp2_with fail
  refine (HNZ.out).mono ?_
  rintro e w3 ⟨rfl, hc3, ho3⟩
  have hO : Only (fun j => j = cp) wA w3 := HO2.out.trans ho3 (fun _ _ h => h)
  go_wp2_with fail
  refine rmeet hJ rfl _ f ⟨by omega, by omega⟩ hc3 (HWS.out.only hO (fun e => hws2 e.symm)) (rm_only HMA.out hO a1 a2) (hO.mono (fun _ _ h => .inl h)) (fun h => by cases h) (fun _ mp => ?_)
  refine sp_end hst hpc HF (s' := ((c.sp mp _).sign imm).setR dn imm) (by rfl) rfl ?_ rfl rfl
  unfold Sp.setR Sp.sign Ch.sp
  dsimp only
  rw [hpc, List.set_comm _ _ (by omega)]
  rfl
set_option maxHeartbeats 16000000 in
set_option maxRecDepth 100000 in
theorem rarm_12 : rsw.1 12 := by
  delta rsw
  dsimp only
  intro c _ _ _ f hst _ _ _ hpc _ _ _ _ _ _ _ _ _ _ _ _ _ _ _ _ _ _ _ _ _ _ _ _ _ _ _ k _ _ _ _ ip _ wA _ HWS dn _ _ _ _ _ mn _ _ HF HIR HRT HIA i0' i1' _ _ _ rd hrd _ _ rm' hrm _ _ _ _ _ _ HMA _ cp HCA _ _ _ hws2 hJ
  have hf1 := HCA.out.1.frozen dn
  have hk : k = 1 := by simpa using HIR.out.2
  subst hk
  obtain ⟨l1, l2, l3⟩ := low15 HRT.out (by simp)
  have HUrd : Hid (U rd) := by show U _; rw [← hrd]; exact HCA.out.2.reg (by omega)
  have HUrm : Hid (U rm') := by show U _; rw [← hrm]; exact HCA.out.2.reg (by omega)
  have HUV : Hid (U (bits .and .u32 rd rm')) := ⟨bits_lo_u32 _ _ _, Int.lt_of_le_of_lt (bits_hi_u32 _ _ _) (by decide)⟩
  have hdi : (dn : Int) < 16 := by omega
  obtain ⟨a1, a2⟩ := rapart HCA.out HMA.out
  have HLC := Lib.hid (logic_c wA 12 (by simp))
  have HLS : Hid (logS 12 = 0) := rfl
  rw [HLS.out] at HLC
  have hix := idx7_0 (bits .and .u32 rd rm') (bits .xor .u32 rd rm') (bits .or .u32 rd rm') (bits .andNot .u32 rd rm') (bits .xor .u32 IntKind.u32.max rm') (rd * rm' % 4294967296) (bits .and .u32 rd rm')
  have HNZ := Lib.hid (nz_c wA cp c (bits .and .u32 rd rm') HCA.out HUV.out)
  go_wp2_with fail
  refine (HLC.out).mono ?_
  rintro e w1 ⟨rfl, rfl⟩
  go_wp2_with fail
  refine (HNZ.out).mono ?_
  rintro e w3 ⟨rfl, hc3, ho3⟩
  have HC3 := Lib.hid hc3; have HO3 := Lib.hid ho3
  have c0 : w3.cell? ⟨ip, 0, none⟩ = some (.int .i64 12) := by rw [ho3.cell (p := ⟨ip, 0, none⟩) HIA.out.lt (HIA.out.ne HCA.out.1 (by decide))]; exact i0'
  have c1 : w3.cell? ⟨ip, 1, none⟩ = some (.int .i64 dn) := by rw [ho3.cell (p := ⟨ip, 1, none⟩) HIA.out.lt (HIA.out.ne HCA.out.1 (by decide))]; exact i1'
  have c2 := hc3.reg (k := dn) (by omega)
  have c3 := hc3.1.frozen dn
  clear hc3 ho3 hix
  obtain ⟨V, hV⟩ : ∃ V, V = bits .and .u32 rd rm' := ⟨_, rfl⟩
  rw [← hV] at HC3 HUV
  try rw [← hV]
  have HV := Lib.hid hV
  clear hV
  go_wp2_with fail
  have hO : Only (fun j => j = cp) wA (w3.setCell ⟨cp, dn, none⟩ (.int .u32 V)) := HO3.out.setCell (p := ⟨cp, dn, none⟩) (.inl rfl) _
  refine rmeet hJ rfl _ f ⟨by omega, by omega⟩ (HC3.out.setReg (by omega) HUV.out) (HWS.out.only hO (fun e => hws2 e.symm)) (rm_only HMA.out hO a1 a2) (hO.mono (fun _ _ h => .inl h)) (fun h => by cases h) (fun _ mp => ?_)
  refine sp_end hst hpc HF (s' := ((c.sp mp _).sign (bits .and .u32 ((c.sp mp _).c.R.getD dn 0) ((c.sp mp _).c.R.getD mn 0))).setR dn (bits .and .u32 ((c.sp mp _).c.R.getD dn 0) ((c.sp mp _).c.R.getD mn 0))) (by rfl) rfl ?_ rfl rfl
  unfold Sp.setR Sp.sign Ch.sp
  dsimp only
  rw [get15 _ (by omega), get15 _ (by omega), hrd, hrm, hpc, ← HV.out, List.set_comm _ _ (by omega)]
  rfl
set_option maxHeartbeats 16000000 in
set_option maxRecDepth 100000 in
theorem rarm_13 : rsw.1 13 := by
  delta rsw
  dsimp only
  intro c _ _ _ f hst _ _ _ hpc _ _ _ _ _ _ _ _ _ _ _ _ _ _ _ _ _ _ _ _ _ _ _ _ _ _ _ k _ _ _ _ ip _ wA _ HWS dn _ _ _ _ _ mn _ _ HF HIR HRT HIA i0' i1' _ _ _ rd hrd _ _ rm' hrm _ _ _ _ _ _ HMA _ cp HCA _ _ _ hws2 hJ
  have hf1 := HCA.out.1.frozen dn
  have hk : k = 1 := by simpa using HIR.out.2
  subst hk
  obtain ⟨l1, l2, l3⟩ := low15 HRT.out (by simp)
  have HUrd : Hid (U rd) := by show U _; rw [← hrd]; exact HCA.out.2.reg (by omega)
  have HUrm : Hid (U rm') := by show U _; rw [← hrm]; exact HCA.out.2.reg (by omega)
  have HUV : Hid (U (bits .xor .u32 rd rm')) := ⟨bits_lo_u32 _ _ _, Int.lt_of_le_of_lt (bits_hi_u32 _ _ _) (by decide)⟩
  have hdi : (dn : Int) < 16 := by omega
  obtain ⟨a1, a2⟩ := rapart HCA.out HMA.out
  have HLC := Lib.hid (logic_c wA 13 (by simp))
  have HLS : Hid (logS 13 = 1) := rfl
  rw [HLS.out] at HLC
  have hix := idx7_1 (bits .and .u32 rd rm') (bits .xor .u32 rd rm') (bits .or .u32 rd rm') (bits .andNot .u32 rd rm') (bits .xor .u32 IntKind.u32.max rm') (rd * rm' % 4294967296) (bits .and .u32 rd rm')
  have HNZ := Lib.hid (nz_c wA cp c (bits .xor .u32 rd rm') HCA.out HUV.out)
  go_wp2_with fail
  refine (HLC.out).mono ?_
  rintro e w1 ⟨rfl, rfl⟩
  go_wp2_with fail
  refine (HNZ.out).mono ?_
  rintro e w3 ⟨rfl, hc3, ho3⟩
  have HC3 := Lib.hid hc3; have HO3 := Lib.hid ho3
  have c0 : w3.cell? ⟨ip, 0, none⟩ = some (.int .i64 13) := by rw [ho3.cell (p := ⟨ip, 0, none⟩) HIA.out.lt (HIA.out.ne HCA.out.1 (by decide))]; exact i0'
  have c1 : w3.cell? ⟨ip, 1, none⟩ = some (.int .i64 dn) := by rw [ho3.cell (p := ⟨ip, 1, none⟩) HIA.out.lt (HIA.out.ne HCA.out.1 (by decide))]; exact i1'
  have c2 := hc3.reg (k := dn) (by omega)
  have c3 := hc3.1.frozen dn
  clear hc3 ho3 hix
  obtain ⟨V, hV⟩ : ∃ V, V = bits .xor .u32 rd rm' := ⟨_, rfl⟩
  rw [← hV] at HC3 HUV
  try rw [← hV]
  have HV := Lib.hid hV
  clear hV
  go_wp2_with fail
  have hO : Only (fun j => j = cp) wA (w3.setCell ⟨cp, dn, none⟩ (.int .u32 V)) := HO3.out.setCell (p := ⟨cp, dn, none⟩) (.inl rfl) _
  refine rmeet hJ rfl _ f ⟨by omega, by omega⟩ (HC3.out.setReg (by omega) HUV.out) (HWS.out.only hO (fun e => hws2 e.symm)) (rm_only HMA.out hO a1 a2) (hO.mono (fun _ _ h => .inl h)) (fun h => by cases h) (fun _ mp => ?_)
  refine sp_end hst hpc HF (s' := ((c.sp mp _).sign (bits .xor .u32 ((c.sp mp _).c.R.getD dn 0) ((c.sp mp _).c.R.getD mn 0))).setR dn (bits .xor .u32 ((c.sp mp _).c.R.getD dn 0) ((c.sp mp _).c.R.getD mn 0))) (by rfl) rfl ?_ rfl rfl
  unfold Sp.setR Sp.sign Ch.sp
  dsimp only
  rw [get15 _ (by omega), get15 _ (by omega), hrd, hrm, hpc, ← HV.out, List.set_comm _ _ (by omega)]
  rfl
set_option maxHeartbeats 16000000 in
set_option maxRecDepth 100000 in
theorem rarm_20 : rsw.1 20 := by
  delta rsw
  dsimp only
  intro c _ _ _ f hst _ _ _ hpc _ _ _ _ _ _ _ _ _ _ _ _ _ _ _ _ _ _ _ _ _ _ _ _ _ _ _ k _ _ _ _ ip _ wA _ HWS dn _ _ _ _ _ mn _ _ HF HIR HRT HIA i0' i1' _ _ _ rd hrd _ _ rm' hrm _ _ _ _ _ _ HMA _ cp HCA _ _ _ hws2 hJ
  have hf1 := HCA.out.1.frozen dn
  have hk : k = 1 := by simpa using HIR.out.2
  subst hk
  obtain ⟨l1, l2, l3⟩ := low15 HRT.out (by simp)
  have HUrd : Hid (U rd) := by show U _; rw [← hrd]; exact HCA.out.2.reg (by omega)
  have HUrm : Hid (U rm') := by show U _; rw [← hrm]; exact HCA.out.2.reg (by omega)
  have HUV : Hid (U (bits .and .u32 rd rm')) := ⟨bits_lo_u32 _ _ _, Int.lt_of_le_of_lt (bits_hi_u32 _ _ _) (by decide)⟩
  have hdi : (dn : Int) < 16 := by omega
  obtain ⟨a1, a2⟩ := rapart HCA.out HMA.out
  have HLC := Lib.hid (logic_c wA 20 (by simp))
  have HLS : Hid (logS 20 = 6) := rfl
  rw [HLS.out] at HLC
  have hix := idx7_6 (bits .and .u32 rd rm') (bits .xor .u32 rd rm') (bits .or .u32 rd rm') (bits .andNot .u32 rd rm') (bits .xor .u32 IntKind.u32.max rm') (rd * rm' % 4294967296) (bits .and .u32 rd rm')
  have HNZ := Lib.hid (nz_c wA cp c (bits .and .u32 rd rm') HCA.out HUV.out)
  go_wp2_with fail
  refine (HLC.out).mono ?_
  rintro e w1 ⟨rfl, rfl⟩
  go_wp2_with fail
  refine (HNZ.out).mono ?_
  rintro e w3 ⟨rfl, hc3, ho3⟩
  have HC3 := Lib.hid hc3; have HO3 := Lib.hid ho3
  have c0 : w3.cell? ⟨ip, 0, none⟩ = some (.int .i64 20) := by rw [ho3.cell (p := ⟨ip, 0, none⟩) HIA.out.lt (HIA.out.ne HCA.out.1 (by decide))]; exact i0'
  have c1 : w3.cell? ⟨ip, 1, none⟩ = some (.int .i64 dn) := by rw [ho3.cell (p := ⟨ip, 1, none⟩) HIA.out.lt (HIA.out.ne HCA.out.1 (by decide))]; exact i1'
  have c2 := hc3.reg (k := dn) (by omega)
  have c3 := hc3.1.frozen dn
  clear hc3 ho3 hix
  obtain ⟨V, hV⟩ : ∃ V, V = bits .and .u32 rd rm' := ⟨_, rfl⟩
  rw [← hV] at HC3 HUV
  try rw [← hV]
  have HV := Lib.hid hV
  clear hV
  go_wp2_with fail
  refine rmeet hJ rfl _ f ⟨by omega, by omega⟩ HC3.out (HWS.out.only HO3.out (fun e => hws2 e.symm)) (rm_only HMA.out HO3.out a1 a2) (HO3.out.mono (fun _ _ h => .inl h)) (fun h => by cases h) (fun _ mp => ?_)
  refine sp_end hst hpc HF (s' := (c.sp mp _).sign (bits .and .u32 ((c.sp mp _).c.R.getD dn 0) ((c.sp mp _).c.R.getD mn 0))) (by rfl) rfl ?_ rfl rfl
  unfold Sp.sign Ch.sp
  dsimp only
  rw [get15 _ (by omega), get15 _ (by omega), hrd, hrm, hpc, ← HV.out]
  rfl
set_option maxHeartbeats 16000000 in
set_option maxRecDepth 100000 in
theorem rarm_24 : rsw.1 24 := by
  delta rsw
  dsimp only
  intro c _ _ _ f hst _ _ _ hpc _ _ _ _ _ _ _ _ _ _ _ _ _ _ _ _ _ _ _ _ _ _ _ _ _ _ _ k _ _ _ _ ip _ wA _ HWS dn _ _ _ _ _ mn _ _ HF HIR HRT HIA i0' i1' _ _ _ rd hrd _ _ rm' hrm _ _ _ _ _ _ HMA _ cp HCA _ _ _ hws2 hJ
  have hf1 := HCA.out.1.frozen dn
  have hk : k = 1 := by simpa using HIR.out.2
  subst hk
  obtain ⟨l1, l2, l3⟩ := low15 HRT.out (by simp)
  have HUrd : Hid (U rd) := by show U _; rw [← hrd]; exact HCA.out.2.reg (by omega)
  have HUrm : Hid (U rm') := by show U _; rw [← hrm]; exact HCA.out.2.reg (by omega)
  have HUV : Hid (U (bits .or .u32 rd rm')) := ⟨bits_lo_u32 _ _ _, Int.lt_of_le_of_lt (bits_hi_u32 _ _ _) (by decide)⟩
  have hdi : (dn : Int) < 16 := by omega
  obtain ⟨a1, a2⟩ := rapart HCA.out HMA.out
  have HLC := Lib.hid (logic_c wA 24 (by simp))
  have HLS : Hid (logS 24 = 2) := rfl
  rw [HLS.out] at HLC
  have hix := idx7_2 (bits .and .u32 rd rm') (bits .xor .u32 rd rm') (bits .or .u32 rd rm') (bits .andNot .u32 rd rm') (bits .xor .u32 IntKind.u32.max rm') (rd * rm' % 4294967296) (bits .and .u32 rd rm')
  have HNZ := Lib.hid (nz_c wA cp c (bits .or .u32 rd rm') HCA.out HUV.out)
  go_wp2_with fail
  refine (HLC.out).mono ?_
  rintro e w1 ⟨rfl, rfl⟩
  go_wp2_with fail
  refine (HNZ.out).mono ?_
  rintro e w3 ⟨rfl, hc3, ho3⟩
  have HC3 := Lib.hid hc3; have HO3 := Lib.hid ho3
  have c0 : w3.cell? ⟨ip, 0, none⟩ = some (.int .i64 24) := by rw [ho3.cell (p := ⟨ip, 0, none⟩) HIA.out.lt (HIA.out.ne HCA.out.1 (by decide))]; exact i0'
  have c1 : w3.cell? ⟨ip, 1, none⟩ = some (.int .i64 dn) := by rw [ho3.cell (p := ⟨ip, 1, none⟩) HIA.out.lt (HIA.out.ne HCA.out.1 (by decide))]; exact i1'
  have c2 := hc3.reg (k := dn) (by omega)
  have c3 := hc3.1.frozen dn
  clear hc3 ho3 hix
  obtain ⟨V, hV⟩ : ∃ V, V = bits .or .u32 rd rm' := ⟨_, rfl⟩
  rw [← hV] at HC3 HUV
  try rw [← hV]
  have HV := Lib.hid hV
  clear hV
  go_wp2_with fail
  have hO : Only (fun j => j = cp) wA (w3.setCell ⟨cp, dn, none⟩ (.int .u32 V)) := HO3.out.setCell (p := ⟨cp, dn, none⟩) (.inl rfl) _
  refine rmeet hJ rfl _ f ⟨by omega, by omega⟩ (HC3.out.setReg (by omega) HUV.out) (HWS.out.only hO (fun e => hws2 e.symm)) (rm_only HMA.out hO a1 a2) (hO.mono (fun _ _ h => .inl h)) (fun h => by cases h) (fun _ mp => ?_)
  refine sp_end hst hpc HF (s' := ((c.sp mp _).sign (bits .or .u32 ((c.sp mp _).c.R.getD dn 0) ((c.sp mp _).c.R.getD mn 0))).setR dn (bits .or .u32 ((c.sp mp _).c.R.getD dn 0) ((c.sp mp _).c.R.getD mn 0))) (by rfl) rfl ?_ rfl rfl
  unfold Sp.setR Sp.sign Ch.sp
  dsimp only
  rw [get15 _ (by omega), get15 _ (by omega), hrd, hrm, hpc, ← HV.out, List.set_comm _ _ (by omega)]
  rfl
set_option maxHeartbeats 16000000 in
set_option maxRecDepth 100000 in
theorem rarm_25 : rsw.1 25 := by
  delta rsw
  dsimp only
  intro c _ _ _ f hst _ _ _ hpc _ _ _ _ _ _ _ _ _ _ _ _ _ _ _ _ _ _ _ _ _ _ _ _ _ _ _ k _ _ _ _ ip _ wA _ HWS dn _ _ _ _ _ mn _ _ HF HIR HRT HIA i0' i1' _ _ _ rd hrd _ _ rm' hrm _ _ _ _ _ _ HMA _ cp HCA _ _ _ hws2 hJ
  have hf1 := HCA.out.1.frozen dn
  have hk : k = 1 := by simpa using HIR.out.2
  subst hk
  obtain ⟨l1, l2, l3⟩ := low15 HRT.out (by simp)
  have HUrd : Hid (U rd) := by show U _; rw [← hrd]; exact HCA.out.2.reg (by omega)
  have HUrm : Hid (U rm') := by show U _; rw [← hrm]; exact HCA.out.2.reg (by omega)
  have HUV : Hid (U (rd * rm' % 4294967296)) := by show U _; unfold U; omega
  have hdi : (dn : Int) < 16 := by omega
  obtain ⟨a1, a2⟩ := rapart HCA.out HMA.out
  have HLC := Lib.hid (logic_c wA 25 (by simp))
  have HLS : Hid (logS 25 = 5) := rfl
  rw [HLS.out] at HLC
  have hix := idx7_5 (bits .and .u32 rd rm') (bits .xor .u32 rd rm') (bits .or .u32 rd rm') (bits .andNot .u32 rd rm') (bits .xor .u32 IntKind.u32.max rm') (rd * rm' % 4294967296) (bits .and .u32 rd rm')
  have HNZ := Lib.hid (nz_c wA cp c (rd * rm' % 4294967296) HCA.out HUV.out)
  go_wp2_with fail
  refine (HLC.out).mono ?_
  rintro e w1 ⟨rfl, rfl⟩
  go_wp2_with fail
  refine (HNZ.out).mono ?_
  rintro e w3 ⟨rfl, hc3, ho3⟩
  have HC3 := Lib.hid hc3; have HO3 := Lib.hid ho3
  have c0 : w3.cell? ⟨ip, 0, none⟩ = some (.int .i64 25) := by rw [ho3.cell (p := ⟨ip, 0, none⟩) HIA.out.lt (HIA.out.ne HCA.out.1 (by decide))]; exact i0'
  have c1 : w3.cell? ⟨ip, 1, none⟩ = some (.int .i64 dn) := by rw [ho3.cell (p := ⟨ip, 1, none⟩) HIA.out.lt (HIA.out.ne HCA.out.1 (by decide))]; exact i1'
  have c2 := hc3.reg (k := dn) (by omega)
  have c3 := hc3.1.frozen dn
  clear hc3 ho3 hix
  obtain ⟨V, hV⟩ : ∃ V, V = rd * rm' % 4294967296 := ⟨_, rfl⟩
  rw [← hV] at HC3 HUV
  try rw [← hV]
  have HV := Lib.hid hV
  clear hV
  go_wp2_with fail
  have hO : Only (fun j => j = cp) wA (w3.setCell ⟨cp, dn, none⟩ (.int .u32 V)) := HO3.out.setCell (p := ⟨cp, dn, none⟩) (.inl rfl) _
  refine rmeet hJ rfl _ f ⟨by omega, by omega⟩ (HC3.out.setReg (by omega) HUV.out) (HWS.out.only hO (fun e => hws2 e.symm)) (rm_only HMA.out hO a1 a2) (hO.mono (fun _ _ h => .inl h)) (fun h => by cases h) (fun _ mp => ?_)
  refine sp_end hst hpc HF (s' := ((c.sp mp _).sign (((c.sp mp _).c.R.getD dn 0) * ((c.sp mp _).c.R.getD mn 0) % 4294967296)).setR dn (((c.sp mp _).c.R.getD dn 0) * ((c.sp mp _).c.R.getD mn 0) % 4294967296)) (by rfl) rfl ?_ rfl rfl
  unfold Sp.setR Sp.sign Ch.sp
  dsimp only
  rw [get15 _ (by omega), get15 _ (by omega), hrd, hrm, hpc, ← HV.out, List.set_comm _ _ (by omega)]
  rfl
set_option maxHeartbeats 16000000 in
set_option maxRecDepth 100000 in
theorem rarm_26 : rsw.1 26 := by
  delta rsw
  dsimp only
  intro c _ _ _ f hst _ _ _ hpc _ _ _ _ _ _ _ _ _ _ _ _ _ _ _ _ _ _ _ _ _ _ _ _ _ _ _ k _ _ _ _ ip _ wA _ HWS dn _ _ _ _ _ mn _ _ HF HIR HRT HIA i0' i1' _ _ _ rd hrd _ _ rm' hrm _ _ _ _ _ _ HMA _ cp HCA _ _ _ hws2 hJ
  have hf1 := HCA.out.1.frozen dn
  have hk : k = 1 := by simpa using HIR.out.2
  subst hk
  obtain ⟨l1, l2, l3⟩ := low15 HRT.out (by simp)
  have HUrd : Hid (U rd) := by show U _; rw [← hrd]; exact HCA.out.2.reg (by omega)
  have HUrm : Hid (U rm') := by show U _; rw [← hrm]; exact HCA.out.2.reg (by omega)
  have HUV : Hid (U (bits .andNot .u32 rd rm')) := ⟨bits_lo_u32 _ _ _, Int.lt_of_le_of_lt (bits_hi_u32 _ _ _) (by decide)⟩
  have hdi : (dn : Int) < 16 := by omega
  obtain ⟨a1, a2⟩ := rapart HCA.out HMA.out
  have HLC := Lib.hid (logic_c wA 26 (by simp))
  have HLS : Hid (logS 26 = 3) := rfl
  rw [HLS.out] at HLC
  have hix := idx7_3 (bits .and .u32 rd rm') (bits .xor .u32 rd rm') (bits .or .u32 rd rm') (bits .andNot .u32 rd rm') (bits .xor .u32 IntKind.u32.max rm') (rd * rm' % 4294967296) (bits .and .u32 rd rm')
  have HNZ := Lib.hid (nz_c wA cp c (bits .andNot .u32 rd rm') HCA.out HUV.out)
  go_wp2_with fail
  refine (HLC.out).mono ?_
  rintro e w1 ⟨rfl, rfl⟩
  go_wp2_with fail
  refine (HNZ.out).mono ?_
  rintro e w3 ⟨rfl, hc3, ho3⟩
  have HC3 := Lib.hid hc3; have HO3 := Lib.hid ho3
  have c0 : w3.cell? ⟨ip, 0, none⟩ = some (.int .i64 26) := by rw [ho3.cell (p := ⟨ip, 0, none⟩) HIA.out.lt (HIA.out.ne HCA.out.1 (by decide))]; exact i0'
  have c1 : w3.cell? ⟨ip, 1, none⟩ = some (.int .i64 dn) := by rw [ho3.cell (p := ⟨ip, 1, none⟩) HIA.out.lt (HIA.out.ne HCA.out.1 (by decide))]; exact i1'
  have c2 := hc3.reg (k := dn) (by omega)
  have c3 := hc3.1.frozen dn
  clear hc3 ho3 hix
  obtain ⟨V, hV⟩ : ∃ V, V = bits .andNot .u32 rd rm' := ⟨_, rfl⟩
  rw [← hV] at HC3 HUV
  try rw [← hV]
  have HV := Lib.hid hV
  clear hV
  go_wp2_with fail
  have hO : Only (fun j => j = cp) wA (w3.setCell ⟨cp, dn, none⟩ (.int .u32 V)) := HO3.out.setCell (p := ⟨cp, dn, none⟩) (.inl rfl) _
  refine rmeet hJ rfl _ f ⟨by omega, by omega⟩ (HC3.out.setReg (by omega) HUV.out) (HWS.out.only hO (fun e => hws2 e.symm)) (rm_only HMA.out hO a1 a2) (hO.mono (fun _ _ h => .inl h)) (fun h => by cases h) (fun _ mp => ?_)
  refine sp_end hst hpc HF (s' := ((c.sp mp _).sign (bits .andNot .u32 ((c.sp mp _).c.R.getD dn 0) ((c.sp mp _).c.R.getD mn 0))).setR dn (bits .andNot .u32 ((c.sp mp _).c.R.getD dn 0) ((c.sp mp _).c.R.getD mn 0))) (by rfl) rfl ?_ rfl rfl
  unfold Sp.setR Sp.sign Ch.sp
  dsimp only
  rw [get15 _ (by omega), get15 _ (by omega), hrd, hrm, hpc, ← HV.out, List.set_comm _ _ (by omega)]
  rfl
set_option maxHeartbeats 16000000 in
set_option maxRecDepth 100000 in
theorem rarm_27 : rsw.1 27 := by
  delta rsw
  dsimp only
  intro c _ _ _ f hst _ _ _ hpc _ _ _ _ _ _ _ _ _ _ _ _ _ _ _ _ _ _ _ _ _ _ _ _ _ _ _ k _ _ _ _ ip _ wA _ HWS dn _ _ _ _ _ mn _ _ HF HIR HRT HIA i0' i1' _ _ _ rd hrd _ _ rm' hrm _ _ _ _ _ _ HMA _ cp HCA _ _ _ hws2 hJ
  have hf1 := HCA.out.1.frozen dn
  have hk : k = 1 := by simpa using HIR.out.2
  subst hk
  obtain ⟨l1, l2, l3⟩ := low15 HRT.out (by simp)
  have HUrd : Hid (U rd) := by show U _; rw [← hrd]; exact HCA.out.2.reg (by omega)
  have HUrm : Hid (U rm') := by show U _; rw [← hrm]; exact HCA.out.2.reg (by omega)
  have hx := xor_max rm' HUrm.out
  have HUV : Hid (U (4294967295 - rm')) := U.neg HUrm.out
  have hdi : (dn : Int) < 16 := by omega
  obtain ⟨a1, a2⟩ := rapart HCA.out HMA.out
  have HLC := Lib.hid (logic_c wA 27 (by simp))
  have HLS : Hid (logS 27 = 4) := rfl
  rw [HLS.out] at HLC
  have hix := idx7_4 (bits .and .u32 rd rm') (bits .xor .u32 rd rm') (bits .or .u32 rd rm') (bits .andNot .u32 rd rm') (4294967295 - rm') (rd * rm' % 4294967296) (bits .and .u32 rd rm')
  have HNZ := Lib.hid (nz_c wA cp c (4294967295 - rm') HCA.out HUV.out)
  go_wp2_with fail
  refine (HLC.out).mono ?_
  rintro e w1 ⟨rfl, rfl⟩
  go_wp2_with fail
  refine (HNZ.out).mono ?_
  rintro e w3 ⟨rfl, hc3, ho3⟩
  have HC3 := Lib.hid hc3; have HO3 := Lib.hid ho3
  have c0 : w3.cell? ⟨ip, 0, none⟩ = some (.int .i64 27) := by rw [ho3.cell (p := ⟨ip, 0, none⟩) HIA.out.lt (HIA.out.ne HCA.out.1 (by decide))]; exact i0'
  have c1 : w3.cell? ⟨ip, 1, none⟩ = some (.int .i64 dn) := by rw [ho3.cell (p := ⟨ip, 1, none⟩) HIA.out.lt (HIA.out.ne HCA.out.1 (by decide))]; exact i1'
  have c2 := hc3.reg (k := dn) (by omega)
  have c3 := hc3.1.frozen dn
  clear hc3 ho3 hix
  obtain ⟨V, hV⟩ : ∃ V, V = 4294967295 - rm' := ⟨_, rfl⟩
  rw [← hV] at HC3 HUV
  try rw [← hV]
  have HV := Lib.hid hV
  clear hV
  go_wp2_with fail
  have hO : Only (fun j => j = cp) wA (w3.setCell ⟨cp, dn, none⟩ (.int .u32 V)) := HO3.out.setCell (p := ⟨cp, dn, none⟩) (.inl rfl) _
  refine rmeet hJ rfl _ f ⟨by omega, by omega⟩ (HC3.out.setReg (by omega) HUV.out) (HWS.out.only hO (fun e => hws2 e.symm)) (rm_only HMA.out hO a1 a2) (hO.mono (fun _ _ h => .inl h)) (fun h => by cases h) (fun _ mp => ?_)
  refine sp_end hst hpc HF (s' := ((c.sp mp _).sign (4294967295 - ((c.sp mp _).c.R.getD mn 0))).setR dn (4294967295 - ((c.sp mp _).c.R.getD mn 0))) (by rfl) rfl ?_ rfl rfl
  unfold Sp.setR Sp.sign Ch.sp
  dsimp only
  rw [get15 _ (by omega), hrm, hpc, ← HV.out, List.set_comm _ _ (by omega)]
  rfl
end Go.Proofs.Ytpihjhfaeloapaa
