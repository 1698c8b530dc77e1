/- MERGED by mergev.py: XSf XSn. -/
import Derived.Test.YtpihjhfaeloapaaVl
import Derived.Test.YtpihjhfaeloapaaVk
import Derived.Test.YtpihjhfaeloapaaSh
import Derived.BigQuiet
import Derived.Deep.QuietTactic
import Derived.Deep.RegionHeld3
namespace Go.Proofs.Ytpihjhfaeloapaa
open Go.RowKit On Th
set_option maxHeartbeats 16000000 in
set_option maxRecDepth 100000 in
theorem rarm_4 : rsw.1 4 := by
  delta rsw
  dsimp only
  intro c _ _ _ f hst _ _ _ hpc _ _ _ _ _ _ _ _ _ _ _ _ _ _ _ _ _ _ _ _ _ _ _ _ _ _ _ k _ _ _ _ ip _ wA _ HWS dn _ _ nn' _ _ mn _ _ HF HIR HRT HIA _ i1' _ _ _ _ _ rn hrn rm' hrm _ _ _ _ _ _ HMA _ cp HCA _ _ _ hws2 hJ
  have hf1 := HCA.out.1.frozen dn
  have hk : k = 1 := by simpa using HIR.out.2
  subst hk
  obtain ⟨l1, l2, l3⟩ := low15 HRT.out (by simp)
  have HUrn : Hid (U rn) := by show U _; rw [← hrn]; exact HCA.out.2.reg (by omega)
  have HUrm : Hid (U rm') := by show U _; rw [← hrm]; exact HCA.out.2.reg (by omega)
  have HCD : Hid (ChW wA.drew cp c) := HCA.out.only (S := fun _ => False) (Only.refl _ _).drew id
  have HIL := Lib.hid HIA.out.lt
  have HIN : Hid (¬ ip = cp) := HIA.out.ne HCA.out.1 (by decide)
  have hdi : (dn : Int) < 16 := by omega
  have HAD := Lib.hid (add_c wA.drew cp c rn rm' false HCD.out HUrn.out HUrm.out)
  rw [show cb false = 0 from rfl] at HAD
  obtain ⟨x9, hx9⟩ : ∃ x, sumX rn rm' false = x := ⟨_, rfl⟩
  obtain ⟨c9, hc9⟩ : ∃ x, c.addF rn rm' false = x := ⟨_, rfl⟩
  rw [hx9, hc9] at HAD
  have HX9 := Lib.hid hx9; have HC9 := Lib.hid hc9
  have HU9 : Hid (U x9) := by show U _; rw [← hx9]; exact sumX_U _ _ _
  clear hx9 hc9
  go_wp2_with fail

  go_region_held3 (fun w' => w'.cell? ⟨ip, 1, none⟩ = some (.int .i64 dn)) (first | exact KI | exact KS _ | exact i1') ((go_at_call 44; refine (HAD.out).mono ?_; rintro e w2 ⟨rfl, hc2, ho2⟩; have KI : w2.cell? ⟨ip, 1, none⟩ = some (.int .i64 dn) := (by rw [ho2.cell (p := ⟨ip, 1, none⟩) HIL.out HIN.out]; exact i1'); have KS : ∀ v, (w2.setCell ⟨cp, dn, none⟩ v).cell? ⟨ip, 1, none⟩ = some (.int .i64 dn) := (fun v => by rw [(Only.setCell (p := ⟨cp, dn, none⟩) (Only.refl (fun j => j = cp) w2) (.inl rfl) v).cell (p := ⟨ip, 1, none⟩) (Nat.lt_of_lt_of_le HIL.out ho2.size) HIN.out]; exact KI); have KQ := hc2.reg (k := dn) (by omega); have KF := hc2.1.frozen dn))
  go_wp2_with fail
  have hO : Only (fun j => j = cp) wA (w2.setCell ⟨cp, dn, none⟩ (.int .u32 x9)) := ((Only.refl (fun j => j = cp) wA).drew.trans ho2 (fun _ _ h => h)).setCell (p := ⟨cp, dn, none⟩) (.inl rfl) _
  obtain ⟨a1, a2⟩ := rapart HCA.out HMA.out
  refine rmeet hJ rfl { c9 with R := c9.R.set dn x9 } f ⟨by omega, by omega⟩ (hc2.setReg (by omega) HU9.out) (HWS.out.only hO (fun e => hws2 e.symm)) (rm_only HMA.out hO a1 a2) (hO.mono (fun _ _ h => .inl h)) (fun h => by cases h) (fun _ mp => ?_)
  refine sp_end hst hpc HF (s' := (Sp.sum (c.sp mp _) ((c.sp mp _).c.R.getD nn' 0) ((c.sp mp _).c.R.getD mn 0) false).setR dn (sumX ((c.sp mp _).c.R.getD nn' 0) ((c.sp mp _).c.R.getD mn 0) false)) (by rfl) rfl ?_ rfl rfl
  rw [← HC9.out, ← HX9.out]
  unfold Sp.setR Sp.sum Sp.sign Ch.sp Ch.addF
  dsimp only
  rw [get15 _ (by omega), get15 _ (by omega), hrn, hrm, hpc, List.set_comm _ _ (by omega)]
  rfl
set_option maxHeartbeats 16000000 in
set_option maxRecDepth 100000 in
theorem rarm_5 : rsw.1 5 := by
  delta rsw
  dsimp only
  intro c _ _ _ f hst _ _ _ hpc _ _ _ _ _ _ _ _ _ _ _ _ _ _ _ _ _ _ _ _ _ _ _ _ _ _ _ k _ _ _ _ ip _ wA _ HWS dn _ _ nn' _ _ mn _ _ HF HIR HRT HIA _ i1' _ _ _ _ _ rn hrn rm' hrm _ _ _ _ _ _ HMA _ cp HCA _ _ _ hws2 hJ
  have hf1 := HCA.out.1.frozen dn
  have hk : k = 1 := by simpa using HIR.out.2
  subst hk
  obtain ⟨l1, l2, l3⟩ := low15 HRT.out (by simp)
  have HUrn : Hid (U rn) := by show U _; rw [← hrn]; exact HCA.out.2.reg (by omega)
  have HUrm : Hid (U rm') := by show U _; rw [← hrm]; exact HCA.out.2.reg (by omega)
  have hx := xor_max rm' HUrm.out
  have hxi : bits .xor .u32 (if IntKind.u32.signed = true then -1 else IntKind.u32.max) rm' = 4294967295 - rm' := hx
  have HCD : Hid (ChW wA.drew cp c) := HCA.out.only (S := fun _ => False) (Only.refl _ _).drew id
  have HIL := Lib.hid HIA.out.lt
  have HIN : Hid (¬ ip = cp) := HIA.out.ne HCA.out.1 (by decide)
  have hdi : (dn : Int) < 16 := by omega
  have HAD := Lib.hid (add_c wA.drew cp c rn (4294967295 - rm') true HCD.out HUrn.out (U.neg HUrm.out))
  rw [show cb true = 1 from rfl] at HAD
  obtain ⟨x9, hx9⟩ : ∃ x, sumX rn (4294967295 - rm') true = x := ⟨_, rfl⟩
  obtain ⟨c9, hc9⟩ : ∃ x, c.addF rn (4294967295 - rm') true = x := ⟨_, rfl⟩
  rw [hx9, hc9] at HAD
  have HX9 := Lib.hid hx9; have HC9 := Lib.hid hc9
  have HU9 : Hid (U x9) := by show U _; rw [← hx9]; exact sumX_U _ _ _
  clear hx9 hc9
  go_wp2_with fail

  go_region_held3 (fun w' => w'.cell? ⟨ip, 1, none⟩ = some (.int .i64 dn)) (first | exact KI | exact KS _ | exact i1') ((go_at_call 44; refine (HAD.out).mono ?_; rintro e w2 ⟨rfl, hc2, ho2⟩; have KI : w2.cell? ⟨ip, 1, none⟩ = some (.int .i64 dn) := (by rw [ho2.cell (p := ⟨ip, 1, none⟩) HIL.out HIN.out]; exact i1'); have KS : ∀ v, (w2.setCell ⟨cp, dn, none⟩ v).cell? ⟨ip, 1, none⟩ = some (.int .i64 dn) := (fun v => by rw [(Only.setCell (p := ⟨cp, dn, none⟩) (Only.refl (fun j => j = cp) w2) (.inl rfl) v).cell (p := ⟨ip, 1, none⟩) (Nat.lt_of_lt_of_le HIL.out ho2.size) HIN.out]; exact KI); have KQ := hc2.reg (k := dn) (by omega); have KF := hc2.1.frozen dn))
  go_wp2_with fail
  have hO : Only (fun j => j = cp) wA (w2.setCell ⟨cp, dn, none⟩ (.int .u32 x9)) := ((Only.refl (fun j => j = cp) wA).drew.trans ho2 (fun _ _ h => h)).setCell (p := ⟨cp, dn, none⟩) (.inl rfl) _
  obtain ⟨a1, a2⟩ := rapart HCA.out HMA.out
  refine rmeet hJ rfl { c9 with R := c9.R.set dn x9 } f ⟨by omega, by omega⟩ (hc2.setReg (by omega) HU9.out) (HWS.out.only hO (fun e => hws2 e.symm)) (rm_only HMA.out hO a1 a2) (hO.mono (fun _ _ h => .inl h)) (fun h => by cases h) (fun _ mp => ?_)
  refine sp_end hst hpc HF (s' := (Sp.sum (c.sp mp _) ((c.sp mp _).c.R.getD nn' 0) (4294967295 - ((c.sp mp _).c.R.getD mn 0)) true).setR dn (sumX ((c.sp mp _).c.R.getD nn' 0) (4294967295 - ((c.sp mp _).c.R.getD mn 0)) true)) (by rfl) rfl ?_ rfl rfl
  rw [← HC9.out, ← HX9.out]
  unfold Sp.setR Sp.sum Sp.sign Ch.sp Ch.addF
  dsimp only
  rw [get15 _ (by omega), get15 _ (by omega), hrn, hrm, hpc, List.set_comm _ _ (by omega)]
  rfl
set_option maxHeartbeats 16000000 in
set_option maxRecDepth 100000 in
theorem rarm_6 : rsw.1 6 := by
  delta rsw
  dsimp only
  intro c _ _ _ f hst _ _ _ hpc _ _ _ _ _ _ _ _ _ _ _ _ _ _ _ _ _ _ _ _ _ _ _ _ _ _ _ k imm _ _ _ ip _ wA _ HWS dn _ _ nn' _ _ _ _ _ HF HIR HRT HIA _ i1' _ _ _ _ _ rn hrn _ _ _ _ _ _ _ _ HMA _ cp HCA _ _ _ hws2 hJ
  have hf1 := HCA.out.1.frozen dn
  have hk : k = 1 := by simpa using HIR.out.2
  subst hk
  obtain ⟨l1, l2, l3⟩ := low15 HRT.out (by simp)
  have HUrn : Hid (U rn) := by show U _; rw [← hrn]; exact HCA.out.2.reg (by omega)
  have HUk : Hid (U imm) := by show U _; have := HIR.out.1.low0 (by simp); have := HIR.out.1.low (by simp); dsimp only at *; unfold U; omega
  have him : imm % 4294967296 = imm := by have := HUk.out; unfold U at this; omega
  have HCD : Hid (ChW wA.drew cp c) := HCA.out.only (S := fun _ => False) (Only.refl _ _).drew id
  have HIL := Lib.hid HIA.out.lt
  have HIN : Hid (¬ ip = cp) := HIA.out.ne HCA.out.1 (by decide)
  have hdi : (dn : Int) < 16 := by omega
  have HAD := Lib.hid (add_c wA.drew cp c rn imm false HCD.out HUrn.out HUk.out)
  rw [show cb false = 0 from rfl] at HAD
  obtain ⟨x9, hx9⟩ : ∃ x, sumX rn imm false = x := ⟨_, rfl⟩
  obtain ⟨c9, hc9⟩ : ∃ x, c.addF rn imm false = x := ⟨_, rfl⟩
  rw [hx9, hc9] at HAD
  have HX9 := Lib.hid hx9; have HC9 := Lib.hid hc9
  have HU9 : Hid (U x9) := by show U _; rw [← hx9]; exact sumX_U _ _ _
  clear hx9 hc9
  go_wp2_with fail
  rw [him]
  go_region_held3 (fun w' => w'.cell? ⟨ip, 1, none⟩ = some (.int .i64 dn)) (first | exact KI | exact KS _ | exact i1') ((go_at_call 44; refine (HAD.out).mono ?_; rintro e w2 ⟨rfl, hc2, ho2⟩; have KI : w2.cell? ⟨ip, 1, none⟩ = some (.int .i64 dn) := (by rw [ho2.cell (p := ⟨ip, 1, none⟩) HIL.out HIN.out]; exact i1'); have KS : ∀ v, (w2.setCell ⟨cp, dn, none⟩ v).cell? ⟨ip, 1, none⟩ = some (.int .i64 dn) := (fun v => by rw [(Only.setCell (p := ⟨cp, dn, none⟩) (Only.refl (fun j => j = cp) w2) (.inl rfl) v).cell (p := ⟨ip, 1, none⟩) (Nat.lt_of_lt_of_le HIL.out ho2.size) HIN.out]; exact KI); have KQ := hc2.reg (k := dn) (by omega); have KF := hc2.1.frozen dn))
  go_wp2_with fail
  have hO : Only (fun j => j = cp) wA (w2.setCell ⟨cp, dn, none⟩ (.int .u32 x9)) := ((Only.refl (fun j => j = cp) wA).drew.trans ho2 (fun _ _ h => h)).setCell (p := ⟨cp, dn, none⟩) (.inl rfl) _
  obtain ⟨a1, a2⟩ := rapart HCA.out HMA.out
  refine rmeet hJ rfl { c9 with R := c9.R.set dn x9 } f ⟨by omega, by omega⟩ (hc2.setReg (by omega) HU9.out) (HWS.out.only hO (fun e => hws2 e.symm)) (rm_only HMA.out hO a1 a2) (hO.mono (fun _ _ h => .inl h)) (fun h => by cases h) (fun _ mp => ?_)
  refine sp_end hst hpc HF (s' := (Sp.sum (c.sp mp _) ((c.sp mp _).c.R.getD nn' 0) imm false).setR dn (sumX ((c.sp mp _).c.R.getD nn' 0) imm false)) (by rfl) rfl ?_ rfl rfl
  rw [← HC9.out, ← HX9.out]
  unfold Sp.setR Sp.sum Sp.sign Ch.sp Ch.addF
  dsimp only
  rw [get15 _ (by omega), hrn, hpc, List.set_comm _ _ (by omega)]
  rfl
set_option maxHeartbeats 16000000 in
set_option maxRecDepth 100000 in
theorem rarm_7 : rsw.1 7 := by
  delta rsw
  dsimp only
  intro c _ _ _ f hst _ _ _ hpc _ _ _ _ _ _ _ _ _ _ _ _ _ _ _ _ _ _ _ _ _ _ _ _ _ _ _ k imm _ _ _ ip _ wA _ HWS dn _ _ nn' _ _ _ _ _ HF HIR HRT HIA _ i1' _ _ _ _ _ rn hrn _ _ _ _ _ _ _ _ HMA _ cp HCA _ _ _ hws2 hJ
  have hf1 := HCA.out.1.frozen dn
  have hk : k = 1 := by simpa using HIR.out.2
  subst hk
  obtain ⟨l1, l2, l3⟩ := low15 HRT.out (by simp)
  have HUrn : Hid (U rn) := by show U _; rw [← hrn]; exact HCA.out.2.reg (by omega)
  have HUk : Hid (U imm) := by show U _; have := HIR.out.1.low0 (by simp); have := HIR.out.1.low (by simp); dsimp only at *; unfold U; omega
  have him : imm % 4294967296 = imm := by have := HUk.out; unfold U at this; omega
  have hx := xor_max imm HUk.out
  have hxi : bits .xor .u32 (if IntKind.u32.signed = true then -1 else IntKind.u32.max) imm = 4294967295 - imm := hx
  have HCD : Hid (ChW wA.drew cp c) := HCA.out.only (S := fun _ => False) (Only.refl _ _).drew id
  have HIL := Lib.hid HIA.out.lt
  have HIN : Hid (¬ ip = cp) := HIA.out.ne HCA.out.1 (by decide)
  have hdi : (dn : Int) < 16 := by omega
  have HAD := Lib.hid (add_c wA.drew cp c rn (4294967295 - imm) true HCD.out HUrn.out (U.neg HUk.out))
  rw [show cb true = 1 from rfl] at HAD
  obtain ⟨x9, hx9⟩ : ∃ x, sumX rn (4294967295 - imm) true = x := ⟨_, rfl⟩
  obtain ⟨c9, hc9⟩ : ∃ x, c.addF rn (4294967295 - imm) true = x := ⟨_, rfl⟩
  rw [hx9, hc9] at HAD
  have HX9 := Lib.hid hx9; have HC9 := Lib.hid hc9
  have HU9 : Hid (U x9) := by show U _; rw [← hx9]; exact sumX_U _ _ _
  clear hx9 hc9
  go_wp2_with fail
  rw [him]
  go_region_held3 (fun w' => w'.cell? ⟨ip, 1, none⟩ = some (.int .i64 dn)) (first | exact KI | exact KS _ | exact i1') ((go_at_call 44; refine (HAD.out).mono ?_; rintro e w2 ⟨rfl, hc2, ho2⟩; have KI : w2.cell? ⟨ip, 1, none⟩ = some (.int .i64 dn) := (by rw [ho2.cell (p := ⟨ip, 1, none⟩) HIL.out HIN.out]; exact i1'); have KS : ∀ v, (w2.setCell ⟨cp, dn, none⟩ v).cell? ⟨ip, 1, none⟩ = some (.int .i64 dn) := (fun v => by rw [(Only.setCell (p := ⟨cp, dn, none⟩) (Only.refl (fun j => j = cp) w2) (.inl rfl) v).cell (p := ⟨ip, 1, none⟩) (Nat.lt_of_lt_of_le HIL.out ho2.size) HIN.out]; exact KI); have KQ := hc2.reg (k := dn) (by omega); have KF := hc2.1.frozen dn))
  go_wp2_with fail
  have hO : Only (fun j => j = cp) wA (w2.setCell ⟨cp, dn, none⟩ (.int .u32 x9)) := ((Only.refl (fun j => j = cp) wA).drew.trans ho2 (fun _ _ h => h)).setCell (p := ⟨cp, dn, none⟩) (.inl rfl) _
  obtain ⟨a1, a2⟩ := rapart HCA.out HMA.out
  refine rmeet hJ rfl { c9 with R := c9.R.set dn x9 } f ⟨by omega, by omega⟩ (hc2.setReg (by omega) HU9.out) (HWS.out.only hO (fun e => hws2 e.symm)) (rm_only HMA.out hO a1 a2) (hO.mono (fun _ _ h => .inl h)) (fun h => by cases h) (fun _ mp => ?_)
  refine sp_end hst hpc HF (s' := (Sp.sum (c.sp mp _) ((c.sp mp _).c.R.getD nn' 0) (4294967295 - imm) true).setR dn (sumX ((c.sp mp _).c.R.getD nn' 0) (4294967295 - imm) true)) (by rfl) rfl ?_ rfl rfl
  rw [← HC9.out, ← HX9.out]
  unfold Sp.setR Sp.sum Sp.sign Ch.sp Ch.addF
  dsimp only
  rw [get15 _ (by omega), hrn, hpc, List.set_comm _ _ (by omega)]
  rfl
set_option maxHeartbeats 16000000 in
set_option maxRecDepth 100000 in
theorem rarm_10 : rsw.1 10 := by
  delta rsw
  dsimp only
  intro c _ _ _ f hst _ _ _ hpc _ _ _ _ _ _ _ _ _ _ _ _ _ _ _ _ _ _ _ _ _ _ _ _ _ _ _ k imm _ _ _ ip _ wA _ HWS dn _ _ _ _ _ _ _ _ HF HIR HRT HIA _ i1' _ _ _ rd hrd _ _ _ _ _ _ _ _ _ _ HMA _ cp HCA _ _ _ hws2 hJ
  have hf1 := HCA.out.1.frozen dn
  have hk : k = 1 := by simpa using HIR.out.2
  subst hk
  obtain ⟨l1, l2, l3⟩ := low15 HRT.out (by simp)
  have HUrd : Hid (U rd) := by show U _; rw [← hrd]; exact HCA.out.2.reg (by omega)
  have HUk : Hid (U imm) := by show U _; have := HIR.out.1.low0 (by simp); have := HIR.out.1.low (by simp); dsimp only at *; unfold U; omega
  have him : imm % 4294967296 = imm := by have := HUk.out; unfold U at this; omega
  have HCD : Hid (ChW wA.drew cp c) := HCA.out.only (S := fun _ => False) (Only.refl _ _).drew id
  have HIL := Lib.hid HIA.out.lt
  have HIN : Hid (¬ ip = cp) := HIA.out.ne HCA.out.1 (by decide)
  have hdi : (dn : Int) < 16 := by omega
  have HAD := Lib.hid (add_c wA.drew cp c rd imm false HCD.out HUrd.out HUk.out)
  rw [show cb false = 0 from rfl] at HAD
  obtain ⟨x9, hx9⟩ : ∃ x, sumX rd imm false = x := ⟨_, rfl⟩
  obtain ⟨c9, hc9⟩ : ∃ x, c.addF rd imm false = x := ⟨_, rfl⟩
  rw [hx9, hc9] at HAD
  have HX9 := Lib.hid hx9; have HC9 := Lib.hid hc9
  have HU9 : Hid (U x9) := by show U _; rw [← hx9]; exact sumX_U _ _ _
  clear hx9 hc9
  go_wp2_with fail
  rw [him]
  go_region_held3 (fun w' => w'.cell? ⟨ip, 1, none⟩ = some (.int .i64 dn)) (first | exact KI | exact KS _ | exact i1') ((go_at_call 44; refine (HAD.out).mono ?_; rintro e w2 ⟨rfl, hc2, ho2⟩; have KI : w2.cell? ⟨ip, 1, none⟩ = some (.int .i64 dn) := (by rw [ho2.cell (p := ⟨ip, 1, none⟩) HIL.out HIN.out]; exact i1'); have KS : ∀ v, (w2.setCell ⟨cp, dn, none⟩ v).cell? ⟨ip, 1, none⟩ = some (.int .i64 dn) := (fun v => by rw [(Only.setCell (p := ⟨cp, dn, none⟩) (Only.refl (fun j => j = cp) w2) (.inl rfl) v).cell (p := ⟨ip, 1, none⟩) (Nat.lt_of_lt_of_le HIL.out ho2.size) HIN.out]; exact KI); have KQ := hc2.reg (k := dn) (by omega); have KF := hc2.1.frozen dn))
  go_wp2_with fail
  have hO : Only (fun j => j = cp) wA (w2.setCell ⟨cp, dn, none⟩ (.int .u32 x9)) := ((Only.refl (fun j => j = cp) wA).drew.trans ho2 (fun _ _ h => h)).setCell (p := ⟨cp, dn, none⟩) (.inl rfl) _
  obtain ⟨a1, a2⟩ := rapart HCA.out HMA.out
  refine rmeet hJ rfl { c9 with R := c9.R.set dn x9 } f ⟨by omega, by omega⟩ (hc2.setReg (by omega) HU9.out) (HWS.out.only hO (fun e => hws2 e.symm)) (rm_only HMA.out hO a1 a2) (hO.mono (fun _ _ h => .inl h)) (fun h => by cases h) (fun _ mp => ?_)
  refine sp_end hst hpc HF (s' := (Sp.sum (c.sp mp _) ((c.sp mp _).c.R.getD dn 0) imm false).setR dn (sumX ((c.sp mp _).c.R.getD dn 0) imm false)) (by rfl) rfl ?_ rfl rfl
  rw [← HC9.out, ← HX9.out]
  unfold Sp.setR Sp.sum Sp.sign Ch.sp Ch.addF
  dsimp only
  rw [get15 _ (by omega), hrd, hpc, List.set_comm _ _ (by omega)]
  rfl
set_option maxHeartbeats 16000000 in
set_option maxRecDepth 100000 in
theorem rarm_11 : rsw.1 11 := by
  delta rsw
  dsimp only
  intro c _ _ _ f hst _ _ _ hpc _ _ _ _ _ _ _ _ _ _ _ _ _ _ _ _ _ _ _ _ _ _ _ _ _ _ _ k imm _ _ _ ip _ wA _ HWS dn _ _ _ _ _ _ _ _ HF HIR HRT HIA _ i1' _ _ _ rd hrd _ _ _ _ _ _ _ _ _ _ HMA _ cp HCA _ _ _ hws2 hJ
  have hf1 := HCA.out.1.frozen dn
  have hk : k = 1 := by simpa using HIR.out.2
  subst hk
  obtain ⟨l1, l2, l3⟩ := low15 HRT.out (by simp)
  have HUrd : Hid (U rd) := by show U _; rw [← hrd]; exact HCA.out.2.reg (by omega)
  have HUk : Hid (U imm) := by show U _; have := HIR.out.1.low0 (by simp); have := HIR.out.1.low (by simp); dsimp only at *; unfold U; omega
  have him : imm % 4294967296 = imm := by have := HUk.out; unfold U at this; omega
  have hx := xor_max imm HUk.out
  have hxi : bits .xor .u32 (if IntKind.u32.signed = true then -1 else IntKind.u32.max) imm = 4294967295 - imm := hx
  have HCD : Hid (ChW wA.drew cp c) := HCA.out.only (S := fun _ => False) (Only.refl _ _).drew id
  have HIL := Lib.hid HIA.out.lt
  have HIN : Hid (¬ ip = cp) := HIA.out.ne HCA.out.1 (by decide)
  have hdi : (dn : Int) < 16 := by omega
  have HAD := Lib.hid (add_c wA.drew cp c rd (4294967295 - imm) true HCD.out HUrd.out (U.neg HUk.out))
  rw [show cb true = 1 from rfl] at HAD
  obtain ⟨x9, hx9⟩ : ∃ x, sumX rd (4294967295 - imm) true = x := ⟨_, rfl⟩
  obtain ⟨c9, hc9⟩ : ∃ x, c.addF rd (4294967295 - imm) true = x := ⟨_, rfl⟩
  rw [hx9, hc9] at HAD
  have HX9 := Lib.hid hx9; have HC9 := Lib.hid hc9
  have HU9 : Hid (U x9) := by show U _; rw [← hx9]; exact sumX_U _ _ _
  clear hx9 hc9
  go_wp2_with fail
  rw [him]
  go_region_held3 (fun w' => w'.cell? ⟨ip, 1, none⟩ = some (.int .i64 dn)) (first | exact KI | exact KS _ | exact i1') ((go_at_call 44; refine (HAD.out).mono ?_; rintro e w2 ⟨rfl, hc2, ho2⟩; have KI : w2.cell? ⟨ip, 1, none⟩ = some (.int .i64 dn) := (by rw [ho2.cell (p := ⟨ip, 1, none⟩) HIL.out HIN.out]; exact i1'); have KS : ∀ v, (w2.setCell ⟨cp, dn, none⟩ v).cell? ⟨ip, 1, none⟩ = some (.int .i64 dn) := (fun v => by rw [(Only.setCell (p := ⟨cp, dn, none⟩) (Only.refl (fun j => j = cp) w2) (.inl rfl) v).cell (p := ⟨ip, 1, none⟩) (Nat.lt_of_lt_of_le HIL.out ho2.size) HIN.out]; exact KI); have KQ := hc2.reg (k := dn) (by omega); have KF := hc2.1.frozen dn))
  go_wp2_with fail
  have hO : Only (fun j => j = cp) wA (w2.setCell ⟨cp, dn, none⟩ (.int .u32 x9)) := ((Only.refl (fun j => j = cp) wA).drew.trans ho2 (fun _ _ h => h)).setCell (p := ⟨cp, dn, none⟩) (.inl rfl) _
  obtain ⟨a1, a2⟩ := rapart HCA.out HMA.out
  refine rmeet hJ rfl { c9 with R := c9.R.set dn x9 } f ⟨by omega, by omega⟩ (hc2.setReg (by omega) HU9.out) (HWS.out.only hO (fun e => hws2 e.symm)) (rm_only HMA.out hO a1 a2) (hO.mono (fun _ _ h => .inl h)) (fun h => by cases h) (fun _ mp => ?_)
  refine sp_end hst hpc HF (s' := (Sp.sum (c.sp mp _) ((c.sp mp _).c.R.getD dn 0) (4294967295 - imm) true).setR dn (sumX ((c.sp mp _).c.R.getD dn 0) (4294967295 - imm) true)) (by rfl) rfl ?_ rfl rfl
  rw [← HC9.out, ← HX9.out]
  unfold Sp.setR Sp.sum Sp.sign Ch.sp Ch.addF
  dsimp only
  rw [get15 _ (by omega), hrd, hpc, List.set_comm _ _ (by omega)]
  rfl
set_option maxHeartbeats 16000000 in
set_option maxRecDepth 100000 in
theorem rarm_21 : rsw.1 21 := by
  delta rsw
  dsimp only
  intro c _ _ _ f hst _ _ _ hpc _ _ _ _ _ _ _ _ _ _ _ _ _ _ _ _ _ _ _ _ _ _ _ _ _ _ _ k _ _ _ _ ip _ wA _ HWS dn _ _ _ _ _ mn _ _ HF HIR HRT HIA _ i1' _ _ _ _ _ _ _ rm' hrm _ _ _ _ _ _ HMA _ cp HCA _ _ _ hws2 hJ
  have hf1 := HCA.out.1.frozen dn
  have hk : k = 1 := by simpa using HIR.out.2
  subst hk
  obtain ⟨l1, l2, l3⟩ := low15 HRT.out (by simp)
  have HUrm : Hid (U rm') := by show U _; rw [← hrm]; exact HCA.out.2.reg (by omega)
  have HUz : Hid (U 0) := by show U _; unfold U; omega
  have hx := xor_max rm' HUrm.out
  have hxi : bits .xor .u32 (if IntKind.u32.signed = true then -1 else IntKind.u32.max) rm' = 4294967295 - rm' := hx
  have HCD : Hid (ChW wA.drew cp c) := HCA.out.only (S := fun _ => False) (Only.refl _ _).drew id
  have HIL := Lib.hid HIA.out.lt
  have HIN : Hid (¬ ip = cp) := HIA.out.ne HCA.out.1 (by decide)
  have hdi : (dn : Int) < 16 := by omega
  have HAD := Lib.hid (add_c wA.drew cp c 0 (4294967295 - rm') true HCD.out HUz.out (U.neg HUrm.out))
  rw [show cb true = 1 from rfl] at HAD
  obtain ⟨x9, hx9⟩ : ∃ x, sumX 0 (4294967295 - rm') true = x := ⟨_, rfl⟩
  obtain ⟨c9, hc9⟩ : ∃ x, c.addF 0 (4294967295 - rm') true = x := ⟨_, rfl⟩
  rw [hx9, hc9] at HAD
  have HX9 := Lib.hid hx9; have HC9 := Lib.hid hc9
  have HU9 : Hid (U x9) := by show U _; rw [← hx9]; exact sumX_U _ _ _
  clear hx9 hc9
  go_wp2_with fail

  go_region_held3 (fun w' => w'.cell? ⟨ip, 1, none⟩ = some (.int .i64 dn)) (first | exact KI | exact KS _ | exact i1') ((go_at_call 44; refine (HAD.out).mono ?_; rintro e w2 ⟨rfl, hc2, ho2⟩; have KI : w2.cell? ⟨ip, 1, none⟩ = some (.int .i64 dn) := (by rw [ho2.cell (p := ⟨ip, 1, none⟩) HIL.out HIN.out]; exact i1'); have KS : ∀ v, (w2.setCell ⟨cp, dn, none⟩ v).cell? ⟨ip, 1, none⟩ = some (.int .i64 dn) := (fun v => by rw [(Only.setCell (p := ⟨cp, dn, none⟩) (Only.refl (fun j => j = cp) w2) (.inl rfl) v).cell (p := ⟨ip, 1, none⟩) (Nat.lt_of_lt_of_le HIL.out ho2.size) HIN.out]; exact KI); have KQ := hc2.reg (k := dn) (by omega); have KF := hc2.1.frozen dn))
  go_wp2_with fail
  have hO : Only (fun j => j = cp) wA (w2.setCell ⟨cp, dn, none⟩ (.int .u32 x9)) := ((Only.refl (fun j => j = cp) wA).drew.trans ho2 (fun _ _ h => h)).setCell (p := ⟨cp, dn, none⟩) (.inl rfl) _
  obtain ⟨a1, a2⟩ := rapart HCA.out HMA.out
  refine rmeet hJ rfl { c9 with R := c9.R.set dn x9 } f ⟨by omega, by omega⟩ (hc2.setReg (by omega) HU9.out) (HWS.out.only hO (fun e => hws2 e.symm)) (rm_only HMA.out hO a1 a2) (hO.mono (fun _ _ h => .inl h)) (fun h => by cases h) (fun _ mp => ?_)
  refine sp_end hst hpc HF (s' := (Sp.sum (c.sp mp _) 0 (4294967295 - ((c.sp mp _).c.R.getD mn 0)) true).setR dn (sumX 0 (4294967295 - ((c.sp mp _).c.R.getD mn 0)) true)) (by rfl) rfl ?_ rfl rfl
  rw [← HC9.out, ← HX9.out]
  unfold Sp.setR Sp.sum Sp.sign Ch.sp Ch.addF
  dsimp only
  rw [get15 _ (by omega), hrm, hpc, List.set_comm _ _ (by omega)]
  rfl
end Go.Proofs.Ytpihjhfaeloapaa
namespace Go.Proofs.Ytpihjhfaeloapaa
open Go.RowKit On Th
set_option maxHeartbeats 16000000 in
set_option maxRecDepth 100000 in
theorem rarm_17 : rsw.1 17 := by
  delta rsw
  dsimp only
  intro c _ _ _ f hst _ _ _ hpc _ _ _ _ _ _ _ _ _ _ _ _ _ _ _ _ _ _ _ _ _ _ _ _ _ _ _ k _ _ _ _ ip _ wA ws HWS dn _ _ _ _ _ mn _ _ HF HIR HRT HIA _ i1' _ _ _ rd hrd _ _ rm' hrm _ _ _ _ _ _ HMA _ cp HCA _ _ _ hws2 hJ
  have hf1 := HCA.out.1.frozen dn
  have hk : k = 1 := by simpa using HIR.out.2
  subst hk
  obtain ⟨l1, l2, l3⟩ := low15 HRT.out (by simp)
  have HUrd : Hid (U rd) := by show U _; rw [← hrd]; exact HCA.out.2.reg (by omega)
  have HUrm : Hid (U rm') := by show U _; rw [← hrm]; exact HCA.out.2.reg (by omega)
  have HCD : Hid (ChW wA.drew cp c) := HCA.out.only (S := fun _ => False) (Only.refl _ _).drew id
  have HIL := Lib.hid HIA.out.lt
  have HIN : Hid (¬ ip = cp) := HIA.out.ne HCA.out.1 (by decide)
  have HWL := Lib.hid HWS.out.1.lt
  have hdi : (dn : Int) < 16 := by omega
  have q18 := HWS.out.rest.2.2.1
  go_wp2_with fail
  go_region_held3 (fun w' => w'.cell? ⟨ip, 1, none⟩ = some (.int .i64 dn) ∧ w'.cell? ⟨ws, 18, none⟩ = some (.bool c.cf)) (first | exact ⟨KI, KW⟩ | exact ⟨KS _, KT _⟩ | exact ⟨i1', q18⟩) (first | (go_at_call 46; refine (bit_c _ c.cf).mono ?_; rintro e w1 ⟨rfl, rfl⟩) | (go_at_call 44; refine (add_c _ cp c rd rm' c.cf HCD.out HUrd.out HUrm.out).mono ?_; rintro e w2 ⟨rfl, hc2, ho2⟩; have KI : w2.cell? ⟨ip, 1, none⟩ = some (.int .i64 dn) := (by rw [ho2.cell (p := ⟨ip, 1, none⟩) HIL.out HIN.out]; exact i1'); have KW : w2.cell? ⟨ws, 18, none⟩ = some (.bool c.cf) := (by rw [ho2.cell (p := ⟨ws, 18, none⟩) HWL.out (fun e => hws2 e.symm)]; exact q18); have KS : ∀ v, (w2.setCell ⟨cp, dn, none⟩ v).cell? ⟨ip, 1, none⟩ = some (.int .i64 dn) := (fun v => by rw [(Only.setCell (p := ⟨cp, dn, none⟩) (Only.refl (fun j => j = cp) w2) (.inl rfl) v).cell (p := ⟨ip, 1, none⟩) (Nat.lt_of_lt_of_le HIL.out ho2.size) HIN.out]; exact KI); have KT : ∀ v, (w2.setCell ⟨cp, dn, none⟩ v).cell? ⟨ws, 18, none⟩ = some (.bool c.cf) := (fun v => by rw [(Only.setCell (p := ⟨cp, dn, none⟩) (Only.refl (fun j => j = cp) w2) (.inl rfl) v).cell (p := ⟨ws, 18, none⟩) (Nat.lt_of_lt_of_le HWL.out ho2.size) (fun e => hws2 e.symm)]; exact KW); have KQ := hc2.reg (k := dn) (by omega); have KF := hc2.1.frozen dn))
  go_wp2_with fail
  have hO : Only (fun j => j = cp) wA (w2.setCell ⟨cp, dn, none⟩ (.int .u32 (sumX rd rm' c.cf))) := ((Only.refl (fun j => j = cp) wA).drew.trans ho2 (fun _ _ h => h)).setCell (p := ⟨cp, dn, none⟩) (.inl rfl) _
  obtain ⟨a1, a2⟩ := rapart HCA.out HMA.out
  refine rmeet hJ rfl { c.addF rd rm' c.cf with R := c.R.set dn (sumX rd rm' c.cf) } f ⟨by omega, by omega⟩ (hc2.setReg (by omega) (sumX_U _ _ _)) (HWS.out.only hO (fun e => hws2 e.symm)) (rm_only HMA.out hO a1 a2) (hO.mono (fun _ _ h => .inl h)) (fun h => by cases h) (fun _ mp => ?_)
  refine sp_end hst hpc HF (s' := (Sp.sum (c.sp mp _) ((c.sp mp _).c.R.getD dn 0) ((c.sp mp _).c.R.getD mn 0) c.cf).setR dn (sumX ((c.sp mp _).c.R.getD dn 0) ((c.sp mp _).c.R.getD mn 0) c.cf)) (by rfl) rfl ?_ rfl rfl
  unfold Sp.setR Sp.sum Sp.sign Ch.sp Ch.addF
  dsimp only
  rw [get15 _ (by omega), get15 _ (by omega), hrd, hrm, hpc, List.set_comm _ _ (by omega)]
  rfl
set_option maxHeartbeats 16000000 in
set_option maxRecDepth 100000 in
theorem rarm_18 : rsw.1 18 := by
  delta rsw
  dsimp only
  intro c _ _ _ f hst _ _ _ hpc _ _ _ _ _ _ _ _ _ _ _ _ _ _ _ _ _ _ _ _ _ _ _ _ _ _ _ k _ _ _ _ ip _ wA ws HWS dn _ _ _ _ _ mn _ _ HF HIR HRT HIA _ i1' _ _ _ rd hrd _ _ rm' hrm _ _ _ _ _ _ HMA _ cp HCA _ _ _ hws2 hJ
  have hf1 := HCA.out.1.frozen dn
  have hk : k = 1 := by simpa using HIR.out.2
  subst hk
  obtain ⟨l1, l2, l3⟩ := low15 HRT.out (by simp)
  have HUrd : Hid (U rd) := by show U _; rw [← hrd]; exact HCA.out.2.reg (by omega)
  have HUrm : Hid (U rm') := by show U _; rw [← hrm]; exact HCA.out.2.reg (by omega)
  have hx := xor_max rm' HUrm.out
  have HCD : Hid (ChW wA.drew cp c) := HCA.out.only (S := fun _ => False) (Only.refl _ _).drew id
  have HIL := Lib.hid HIA.out.lt
  have HIN : Hid (¬ ip = cp) := HIA.out.ne HCA.out.1 (by decide)
  have HWL := Lib.hid HWS.out.1.lt
  have hdi : (dn : Int) < 16 := by omega
  have q18 := HWS.out.rest.2.2.1
  go_wp2_with fail
  go_region_held3 (fun w' => w'.cell? ⟨ip, 1, none⟩ = some (.int .i64 dn) ∧ w'.cell? ⟨ws, 18, none⟩ = some (.bool c.cf)) (first | exact ⟨KI, KW⟩ | exact ⟨KS _, KT _⟩ | exact ⟨i1', q18⟩) (first | (go_at_call 46; refine (bit_c _ c.cf).mono ?_; rintro e w1 ⟨rfl, rfl⟩) | (go_at_call 44; refine (add_c _ cp c rd (4294967295 - rm') c.cf HCD.out HUrd.out (U.neg HUrm.out)).mono ?_; rintro e w2 ⟨rfl, hc2, ho2⟩; have KI : w2.cell? ⟨ip, 1, none⟩ = some (.int .i64 dn) := (by rw [ho2.cell (p := ⟨ip, 1, none⟩) HIL.out HIN.out]; exact i1'); have KW : w2.cell? ⟨ws, 18, none⟩ = some (.bool c.cf) := (by rw [ho2.cell (p := ⟨ws, 18, none⟩) HWL.out (fun e => hws2 e.symm)]; exact q18); have KS : ∀ v, (w2.setCell ⟨cp, dn, none⟩ v).cell? ⟨ip, 1, none⟩ = some (.int .i64 dn) := (fun v => by rw [(Only.setCell (p := ⟨cp, dn, none⟩) (Only.refl (fun j => j = cp) w2) (.inl rfl) v).cell (p := ⟨ip, 1, none⟩) (Nat.lt_of_lt_of_le HIL.out ho2.size) HIN.out]; exact KI); have KT : ∀ v, (w2.setCell ⟨cp, dn, none⟩ v).cell? ⟨ws, 18, none⟩ = some (.bool c.cf) := (fun v => by rw [(Only.setCell (p := ⟨cp, dn, none⟩) (Only.refl (fun j => j = cp) w2) (.inl rfl) v).cell (p := ⟨ws, 18, none⟩) (Nat.lt_of_lt_of_le HWL.out ho2.size) (fun e => hws2 e.symm)]; exact KW); have KQ := hc2.reg (k := dn) (by omega); have KF := hc2.1.frozen dn))
  go_wp2_with fail
  have hO : Only (fun j => j = cp) wA (w2.setCell ⟨cp, dn, none⟩ (.int .u32 (sumX rd (4294967295 - rm') c.cf))) := ((Only.refl (fun j => j = cp) wA).drew.trans ho2 (fun _ _ h => h)).setCell (p := ⟨cp, dn, none⟩) (.inl rfl) _
  obtain ⟨a1, a2⟩ := rapart HCA.out HMA.out
  refine rmeet hJ rfl { c.addF rd (4294967295 - rm') c.cf with R := c.R.set dn (sumX rd (4294967295 - rm') c.cf) } f ⟨by omega, by omega⟩ (hc2.setReg (by omega) (sumX_U _ _ _)) (HWS.out.only hO (fun e => hws2 e.symm)) (rm_only HMA.out hO a1 a2) (hO.mono (fun _ _ h => .inl h)) (fun h => by cases h) (fun _ mp => ?_)
  refine sp_end hst hpc HF (s' := (Sp.sum (c.sp mp _) ((c.sp mp _).c.R.getD dn 0) (4294967295 - ((c.sp mp _).c.R.getD mn 0)) c.cf).setR dn (sumX ((c.sp mp _).c.R.getD dn 0) (4294967295 - ((c.sp mp _).c.R.getD mn 0)) c.cf)) (by rfl) rfl ?_ rfl rfl
  unfold Sp.setR Sp.sum Sp.sign Ch.sp Ch.addF
  dsimp only
  rw [get15 _ (by omega), get15 _ (by omega), hrd, hrm, hpc, List.set_comm _ _ (by omega)]
  rfl
end Go.Proofs.Ytpihjhfaeloapaa
