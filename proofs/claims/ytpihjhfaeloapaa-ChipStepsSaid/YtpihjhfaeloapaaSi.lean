/- The document's Step: shifts. PRINTED by gense.py. -/
import Derived.Test.YtpihjhfaeloapaaVl
import Derived.Test.YtpihjhfaeloapaaVk
import Derived.Test.YtpihjhfaeloapaaSh
import Derived.BigQuiet
import Derived.Deep.QuietTactic
import Derived.Deep.RegionHeld3
namespace Go.Proofs.Ytpihjhfaeloapaa
open Go.RowKit On Th
set_option maxHeartbeats 16000000 in
set_option maxRecDepth 100000 in
theorem rarm_1 : rsw.1 1 := by
  delta rsw
  dsimp only
  intro c _ _ _ f hst _ _ _ hpc _ _ _ _ _ _ _ _ _ _ _ _ _ _ _ _ _ _ _ _ _ _ _ _ _ _ _ k imm cond _ _ ip _ wA _ HWS dn _ _ nn' _ _ mn _ _ HF HIR HRT _ i0' i1' _ _ _ rd hrd _ _ rm' hrm _ _ _ _ _ _ HMA _ cp HCA _ _ _ hws2 hJ
  have hf1 := HCA.out.1.frozen dn
  have hk : k = 1 := by simpa using HIR.out.2
  subst hk
  obtain ⟨l1, l2, l3⟩ := low15 HRT.out (by simp)
  have HUrd : Hid (U rd) := by show U _; rw [← hrd]; exact HCA.out.2.reg (by omega)
  have HUrm : Hid (U rm') := by show U _; rw [← hrm]; exact HCA.out.2.reg (by omega)
  have HUF : Hid (U rm') := HUrm
  have hi0 := HIR.out.1.low0 (by simp)
  have hi1 := HIR.out.1.sh (by simp)
  dsimp only at hi0 hi1
  obtain ⟨bn, rfl⟩ : ∃ bn : Nat, imm = bn := ⟨imm.toNat, by omega⟩
  have HEX : Hid (∀ mp : Value, (c.sp mp ⟨1, dn, nn', mn, bn, cond⟩).exec f = ((Sp.sign { c.sp mp ⟨1, dn, nn', mn, bn, cond⟩ with c := { (c.sp mp ⟨1, dn, nn', mn, bn, cond⟩).c with cf := (shN 1 rm' c.cf bn).2 } } (shN 1 rm' c.cf bn).1).setR dn (shN 1 rm' c.cf bn).1, f)) := fun mp => by
    have e : (c.sp mp ⟨1, dn, nn', mn, bn, cond⟩).exec f = ((c.sp mp ⟨1, dn, nn', mn, bn, cond⟩).shifted 1 ((c.sp mp ⟨1, dn, nn', mn, bn, cond⟩).c.R.getD mn 0) (bn : Int) dn, f) := by rfl
    have hF : (c.sp mp ⟨1, dn, nn', mn, bn, cond⟩).c.R.getD mn 0 = rm' := by unfold Ch.sp; dsimp only; rw [get15 _ (by omega), hrm]
    have hB : (bn : Int) = bn := rfl
    rw [hF, hB, shifted_shN _ 1 rm' bn dn HUF.out] at e
    exact e
  have q18 := HCA.out.rest.2.2.1
  go_wp2_with fail
  go_quiet (fail)
  obtain ⟨wq, hwq⟩ : ∃ wq, wq = wA.drewN nq := ⟨_, rfl⟩
  have hOQ : Only (fun _ => False) wA wq := by rw [hwq]; exact (Only.refl _ _).drewN _
  have HCQ := Lib.hid (HCA.out.only hOQ id)
  have HWQ := Lib.hid (HWS.out.only hOQ id)
  have HMQ := Lib.hid (rm_only HMA.out hOQ id id)
  have HOQ := Lib.hid hOQ
  have c0 : wq.cell? ⟨ip, 0, none⟩ = some (.int .i64 1) := by rw [hwq]; exact i0'
  have c1 : wq.cell? ⟨ip, 1, none⟩ = some (.int .i64 dn) := by rw [hwq]; exact i1'
  rw [← hwq]
  clear hwq hOQ
  clear q18
  go_wp2_with fail
  go_loopw [26, 27, 28] (fun x b i wx => ∃ j : Nat, j ≤ bn ∧ i = .int .i64 j ∧ x = .int .u32 (shN 1 rm' c.cf j).1 ∧ b = .bool (shN 1 rm' c.cf j).2 ∧ wx = wq) (fun _ _ i _ => bn - (intOf i).toNat)
  case atStart => exact ⟨0, by omega, rfl, rfl, rfl, rfl⟩
  case round =>
    obtain ⟨j, hj, rfl, rfl, rfl, rfl⟩ := hrel
    have HUS := Lib.hid (shN_U (op := 1) (cf := c.cf) HUF.out j)
    have HS1 : Hid (shN 1 rm' c.cf (j + 1) = sh1 1 (shN 1 rm' c.cf j).1) := rfl
    have hsg := wrap32_sg HUS.out
    obtain ⟨hz0, hz1⟩ := HUS.out
    obtain ⟨z, hz⟩ : ∃ z, shN 1 rm' c.cf j = z := ⟨_, rfl⟩
    rw [hz] at HUS HS1 hsg hz0 hz1 ⊢
    obtain ⟨y, b⟩ := z
    dsimp only at HUS HS1 hsg hz0 hz1 ⊢
    have HZ := Lib.hid hz
    clear hz
    by_cases hlt : (j : Int) < bn
    · go_wp2_with fail
      refine ⟨⟨j + 1, by omega, by go_num, ?_, ?_, by trivial⟩, by simp [intOf]; omega⟩
      · rw [HS1.out]; rfl
      · rw [HS1.out]; rfl
    · have hjb : j = bn := by omega
      subst hjb
      have k1 := HCQ.out.1.frozen 18
      have k2 := HCQ.out.rest.2.2.1
      have k3 := HCQ.out.reg (k := dn) (by omega)
      have k4 := HCQ.out.1.frozen dn
      have hdi : (dn : Int) < 16 := by omega
      have h2 := (HCQ.out.setReg (k := dn) (x := y) (by omega) HUS.out).setCf b
      have HNZ := Lib.hid (nz_c _ cp _ y h2 HUS.out)
      have HO2 := Lib.hid ((HOQ.out.mono (T := fun k => k = cp) (fun _ _ h => h.elim)).setCell (p := ⟨cp, dn, none⟩) (.inl rfl) (.int .u32 y) |>.setCell (p := ⟨cp, 18, none⟩) (.inl rfl) (.bool b))
      clear h2
      go_wp2_with fail
      refine (HNZ.out).mono ?_
      rintro e w3 ⟨rfl, hc3, ho3⟩
      have hO : Only (fun j => j = cp) wA w3 := HO2.out.trans ho3 (fun _ _ h => h)
      go_wp2_with fail
      obtain ⟨a1, a2⟩ := rapart HCA.out HMA.out
      refine rmeet hJ rfl _ f ⟨by omega, by omega⟩ hc3 (HWS.out.only hO (fun e => hws2 e.symm)) (rm_only HMA.out hO a1 a2) (hO.mono (fun _ _ h => .inl h)) (fun h => by cases h) (fun _ mp => ?_)
      have hx := HEX.out mp
      rw [HZ.out] at hx
      refine sp_end hst hpc HF hx rfl ?_ rfl rfl
      unfold Sp.setR Sp.sign Ch.sp
      dsimp only
      rw [hpc, List.set_comm _ _ (by omega)]
      rfl
set_option maxHeartbeats 16000000 in
set_option maxRecDepth 100000 in
theorem rarm_2 : rsw.1 2 := by
  delta rsw
  dsimp only
  intro c _ _ _ f hst _ _ _ hpc _ _ _ _ _ _ _ _ _ _ _ _ _ _ _ _ _ _ _ _ _ _ _ _ _ _ _ k imm cond _ _ ip _ wA _ HWS dn _ _ nn' _ _ mn _ _ HF HIR HRT _ i0' i1' _ _ _ rd hrd _ _ rm' hrm _ _ _ _ _ _ HMA _ cp HCA _ _ _ hws2 hJ
  have hf1 := HCA.out.1.frozen dn
  have hk : k = 1 := by simpa using HIR.out.2
  subst hk
  obtain ⟨l1, l2, l3⟩ := low15 HRT.out (by simp)
  have HUrd : Hid (U rd) := by show U _; rw [← hrd]; exact HCA.out.2.reg (by omega)
  have HUrm : Hid (U rm') := by show U _; rw [← hrm]; exact HCA.out.2.reg (by omega)
  have HUF : Hid (U rm') := HUrm
  have hi0 := HIR.out.1.low0 (by simp)
  have hi1 := HIR.out.1.sh (by simp)
  dsimp only at hi0 hi1
  obtain ⟨bn, rfl⟩ : ∃ bn : Nat, imm = bn := ⟨imm.toNat, by omega⟩
  have HEX : Hid (∀ mp : Value, (c.sp mp ⟨2, dn, nn', mn, bn, cond⟩).exec f = ((Sp.sign { c.sp mp ⟨2, dn, nn', mn, bn, cond⟩ with c := { (c.sp mp ⟨2, dn, nn', mn, bn, cond⟩).c with cf := (shN 2 rm' c.cf bn).2 } } (shN 2 rm' c.cf bn).1).setR dn (shN 2 rm' c.cf bn).1, f)) := fun mp => by
    have e : (c.sp mp ⟨2, dn, nn', mn, bn, cond⟩).exec f = ((c.sp mp ⟨2, dn, nn', mn, bn, cond⟩).shifted 2 ((c.sp mp ⟨2, dn, nn', mn, bn, cond⟩).c.R.getD mn 0) (bn : Int) dn, f) := by rfl
    have hF : (c.sp mp ⟨2, dn, nn', mn, bn, cond⟩).c.R.getD mn 0 = rm' := by unfold Ch.sp; dsimp only; rw [get15 _ (by omega), hrm]
    have hB : (bn : Int) = bn := rfl
    rw [hF, hB, shifted_shN _ 2 rm' bn dn HUF.out] at e
    exact e
  have q18 := HCA.out.rest.2.2.1
  go_wp2_with fail
  go_quiet (fail)
  obtain ⟨wq, hwq⟩ : ∃ wq, wq = wA.drewN nq := ⟨_, rfl⟩
  have hOQ : Only (fun _ => False) wA wq := by rw [hwq]; exact (Only.refl _ _).drewN _
  have HCQ := Lib.hid (HCA.out.only hOQ id)
  have HWQ := Lib.hid (HWS.out.only hOQ id)
  have HMQ := Lib.hid (rm_only HMA.out hOQ id id)
  have HOQ := Lib.hid hOQ
  have c0 : wq.cell? ⟨ip, 0, none⟩ = some (.int .i64 2) := by rw [hwq]; exact i0'
  have c1 : wq.cell? ⟨ip, 1, none⟩ = some (.int .i64 dn) := by rw [hwq]; exact i1'
  rw [← hwq]
  clear hwq hOQ
  clear q18
  go_wp2_with fail
  go_loopw [26, 27, 28] (fun x b i wx => ∃ j : Nat, j ≤ bn ∧ i = .int .i64 j ∧ x = .int .u32 (shN 2 rm' c.cf j).1 ∧ b = .bool (shN 2 rm' c.cf j).2 ∧ wx = wq) (fun _ _ i _ => bn - (intOf i).toNat)
  case atStart => exact ⟨0, by omega, rfl, rfl, rfl, rfl⟩
  case round =>
    obtain ⟨j, hj, rfl, rfl, rfl, rfl⟩ := hrel
    have HUS := Lib.hid (shN_U (op := 2) (cf := c.cf) HUF.out j)
    have HS1 : Hid (shN 2 rm' c.cf (j + 1) = sh1 2 (shN 2 rm' c.cf j).1) := rfl
    have hsg := wrap32_sg HUS.out
    obtain ⟨hz0, hz1⟩ := HUS.out
    obtain ⟨z, hz⟩ : ∃ z, shN 2 rm' c.cf j = z := ⟨_, rfl⟩
    rw [hz] at HUS HS1 hsg hz0 hz1 ⊢
    obtain ⟨y, b⟩ := z
    dsimp only at HUS HS1 hsg hz0 hz1 ⊢
    have HZ := Lib.hid hz
    clear hz
    by_cases hlt : (j : Int) < bn
    · go_wp2_with fail
      refine ⟨⟨j + 1, by omega, by go_num, ?_, ?_, by trivial⟩, by simp [intOf]; omega⟩
      · rw [HS1.out]; rfl
      · rw [HS1.out]; rfl
    · have hjb : j = bn := by omega
      subst hjb
      have k1 := HCQ.out.1.frozen 18
      have k2 := HCQ.out.rest.2.2.1
      have k3 := HCQ.out.reg (k := dn) (by omega)
      have k4 := HCQ.out.1.frozen dn
      have hdi : (dn : Int) < 16 := by omega
      have h2 := (HCQ.out.setReg (k := dn) (x := y) (by omega) HUS.out).setCf b
      have HNZ := Lib.hid (nz_c _ cp _ y h2 HUS.out)
      have HO2 := Lib.hid ((HOQ.out.mono (T := fun k => k = cp) (fun _ _ h => h.elim)).setCell (p := ⟨cp, dn, none⟩) (.inl rfl) (.int .u32 y) |>.setCell (p := ⟨cp, 18, none⟩) (.inl rfl) (.bool b))
      clear h2
      go_wp2_with fail
      refine (HNZ.out).mono ?_
      rintro e w3 ⟨rfl, hc3, ho3⟩
      have hO : Only (fun j => j = cp) wA w3 := HO2.out.trans ho3 (fun _ _ h => h)
      go_wp2_with fail
      obtain ⟨a1, a2⟩ := rapart HCA.out HMA.out
      refine rmeet hJ rfl _ f ⟨by omega, by omega⟩ hc3 (HWS.out.only hO (fun e => hws2 e.symm)) (rm_only HMA.out hO a1 a2) (hO.mono (fun _ _ h => .inl h)) (fun h => by cases h) (fun _ mp => ?_)
      have hx := HEX.out mp
      rw [HZ.out] at hx
      refine sp_end hst hpc HF hx rfl ?_ rfl rfl
      unfold Sp.setR Sp.sign Ch.sp
      dsimp only
      rw [hpc, List.set_comm _ _ (by omega)]
      rfl
set_option maxHeartbeats 16000000 in
set_option maxRecDepth 100000 in
theorem rarm_3 : rsw.1 3 := by
  delta rsw
  dsimp only
  intro c _ _ _ f hst _ _ _ hpc _ _ _ _ _ _ _ _ _ _ _ _ _ _ _ _ _ _ _ _ _ _ _ _ _ _ _ k imm cond _ _ ip _ wA _ HWS dn _ _ nn' _ _ mn _ _ HF HIR HRT _ i0' i1' _ _ _ rd hrd _ _ rm' hrm _ _ _ _ _ _ HMA _ cp HCA _ _ _ hws2 hJ
  have hf1 := HCA.out.1.frozen dn
  have hk : k = 1 := by simpa using HIR.out.2
  subst hk
  obtain ⟨l1, l2, l3⟩ := low15 HRT.out (by simp)
  have HUrd : Hid (U rd) := by show U _; rw [← hrd]; exact HCA.out.2.reg (by omega)
  have HUrm : Hid (U rm') := by show U _; rw [← hrm]; exact HCA.out.2.reg (by omega)
  have HUF : Hid (U rm') := HUrm
  have hi0 := HIR.out.1.low0 (by simp)
  have hi1 := HIR.out.1.sh (by simp)
  dsimp only at hi0 hi1
  obtain ⟨bn, rfl⟩ : ∃ bn : Nat, imm = bn := ⟨imm.toNat, by omega⟩
  have HEX : Hid (∀ mp : Value, (c.sp mp ⟨3, dn, nn', mn, bn, cond⟩).exec f = ((Sp.sign { c.sp mp ⟨3, dn, nn', mn, bn, cond⟩ with c := { (c.sp mp ⟨3, dn, nn', mn, bn, cond⟩).c with cf := (shN 3 rm' c.cf bn).2 } } (shN 3 rm' c.cf bn).1).setR dn (shN 3 rm' c.cf bn).1, f)) := fun mp => by
    have e : (c.sp mp ⟨3, dn, nn', mn, bn, cond⟩).exec f = ((c.sp mp ⟨3, dn, nn', mn, bn, cond⟩).shifted 3 ((c.sp mp ⟨3, dn, nn', mn, bn, cond⟩).c.R.getD mn 0) (bn : Int) dn, f) := by rfl
    have hF : (c.sp mp ⟨3, dn, nn', mn, bn, cond⟩).c.R.getD mn 0 = rm' := by unfold Ch.sp; dsimp only; rw [get15 _ (by omega), hrm]
    have hB : (bn : Int) = bn := rfl
    rw [hF, hB, shifted_shN _ 3 rm' bn dn HUF.out] at e
    exact e
  have q18 := HCA.out.rest.2.2.1
  go_wp2_with fail
  go_quiet (fail)
  obtain ⟨wq, hwq⟩ : ∃ wq, wq = wA.drewN nq := ⟨_, rfl⟩
  have hOQ : Only (fun _ => False) wA wq := by rw [hwq]; exact (Only.refl _ _).drewN _
  have HCQ := Lib.hid (HCA.out.only hOQ id)
  have HWQ := Lib.hid (HWS.out.only hOQ id)
  have HMQ := Lib.hid (rm_only HMA.out hOQ id id)
  have HOQ := Lib.hid hOQ
  have c0 : wq.cell? ⟨ip, 0, none⟩ = some (.int .i64 3) := by rw [hwq]; exact i0'
  have c1 : wq.cell? ⟨ip, 1, none⟩ = some (.int .i64 dn) := by rw [hwq]; exact i1'
  rw [← hwq]
  clear hwq hOQ
  clear q18
  go_wp2_with fail
  go_loopw [26, 27, 28] (fun x b i wx => ∃ j : Nat, j ≤ bn ∧ i = .int .i64 j ∧ x = .int .u32 (shN 3 rm' c.cf j).1 ∧ b = .bool (shN 3 rm' c.cf j).2 ∧ wx = wq) (fun _ _ i _ => bn - (intOf i).toNat)
  case atStart => exact ⟨0, by omega, rfl, rfl, rfl, rfl⟩
  case round =>
    obtain ⟨j, hj, rfl, rfl, rfl, rfl⟩ := hrel
    have HUS := Lib.hid (shN_U (op := 3) (cf := c.cf) HUF.out j)
    have HS1 : Hid (shN 3 rm' c.cf (j + 1) = sh1 3 (shN 3 rm' c.cf j).1) := rfl
    have hsg := wrap32_sg HUS.out
    obtain ⟨hz0, hz1⟩ := HUS.out
    obtain ⟨z, hz⟩ : ∃ z, shN 3 rm' c.cf j = z := ⟨_, rfl⟩
    rw [hz] at HUS HS1 hsg hz0 hz1 ⊢
    obtain ⟨y, b⟩ := z
    dsimp only at HUS HS1 hsg hz0 hz1 ⊢
    have HZ := Lib.hid hz
    clear hz
    by_cases hlt : (j : Int) < bn
    · go_wp2_with fail
      refine ⟨⟨j + 1, by omega, by go_num, ?_, ?_, by trivial⟩, by simp [intOf]; omega⟩
      · rw [HS1.out]; rfl
      · rw [HS1.out]; rfl
    · have hjb : j = bn := by omega
      subst hjb
      have k1 := HCQ.out.1.frozen 18
      have k2 := HCQ.out.rest.2.2.1
      have k3 := HCQ.out.reg (k := dn) (by omega)
      have k4 := HCQ.out.1.frozen dn
      have hdi : (dn : Int) < 16 := by omega
      have h2 := (HCQ.out.setReg (k := dn) (x := y) (by omega) HUS.out).setCf b
      have HNZ := Lib.hid (nz_c _ cp _ y h2 HUS.out)
      have HO2 := Lib.hid ((HOQ.out.mono (T := fun k => k = cp) (fun _ _ h => h.elim)).setCell (p := ⟨cp, dn, none⟩) (.inl rfl) (.int .u32 y) |>.setCell (p := ⟨cp, 18, none⟩) (.inl rfl) (.bool b))
      clear h2
      go_wp2_with fail
      refine (HNZ.out).mono ?_
      rintro e w3 ⟨rfl, hc3, ho3⟩
      have hO : Only (fun j => j = cp) wA w3 := HO2.out.trans ho3 (fun _ _ h => h)
      go_wp2_with fail
      obtain ⟨a1, a2⟩ := rapart HCA.out HMA.out
      refine rmeet hJ rfl _ f ⟨by omega, by omega⟩ hc3 (HWS.out.only hO (fun e => hws2 e.symm)) (rm_only HMA.out hO a1 a2) (hO.mono (fun _ _ h => .inl h)) (fun h => by cases h) (fun _ mp => ?_)
      have hx := HEX.out mp
      rw [HZ.out] at hx
      refine sp_end hst hpc HF hx rfl ?_ rfl rfl
      unfold Sp.setR Sp.sign Ch.sp
      dsimp only
      rw [hpc, List.set_comm _ _ (by omega)]
      rfl
set_option maxHeartbeats 16000000 in
set_option maxRecDepth 100000 in
theorem rarm_14 : rsw.1 14 := by
  delta rsw
  dsimp only
  intro c _ _ _ f hst _ _ _ hpc _ _ _ _ _ _ _ _ _ _ _ _ _ _ _ _ _ _ _ _ _ _ _ _ _ _ _ k imm cond _ _ ip _ wA _ HWS dn _ _ nn' _ _ mn _ _ HF HIR HRT _ i0' i1' _ _ _ rd hrd _ _ rm' hrm _ _ _ _ _ _ HMA _ cp HCA _ _ _ hws2 hJ
  have hf1 := HCA.out.1.frozen dn
  have hk : k = 1 := by simpa using HIR.out.2
  subst hk
  obtain ⟨l1, l2, l3⟩ := low15 HRT.out (by simp)
  have HUrd : Hid (U rd) := by show U _; rw [← hrd]; exact HCA.out.2.reg (by omega)
  have HUrm : Hid (U rm') := by show U _; rw [← hrm]; exact HCA.out.2.reg (by omega)
  have HUF : Hid (U rd) := HUrd
  have hum := HUrm.out
  unfold U at hum
  obtain ⟨bn, hbn⟩ : ∃ bn : Nat, rm' % 256 = bn := ⟨(rm' % 256).toNat, by omega⟩
  have hb := and255_32 HUrm.out
  rw [hbn] at hb
  have hbl : (bn : Int) < 256 := by omega
  have HBN := Lib.hid hbn
  clear hbn hum
  have HEX : Hid (∀ mp : Value, (c.sp mp ⟨14, dn, nn', mn, imm, cond⟩).exec f = ((Sp.sign { c.sp mp ⟨14, dn, nn', mn, imm, cond⟩ with c := { (c.sp mp ⟨14, dn, nn', mn, imm, cond⟩).c with cf := (shN 14 rd c.cf bn).2 } } (shN 14 rd c.cf bn).1).setR dn (shN 14 rd c.cf bn).1, f)) := fun mp => by
    have e : (c.sp mp ⟨14, dn, nn', mn, imm, cond⟩).exec f = ((c.sp mp ⟨14, dn, nn', mn, imm, cond⟩).shifted 14 ((c.sp mp ⟨14, dn, nn', mn, imm, cond⟩).c.R.getD dn 0) ((c.sp mp ⟨14, dn, nn', mn, imm, cond⟩).c.R.getD mn 0 % 256) dn, f) := by rfl
    have hF : (c.sp mp ⟨14, dn, nn', mn, imm, cond⟩).c.R.getD dn 0 = rd := by unfold Ch.sp; dsimp only; rw [get15 _ (by omega), hrd]
    have hB : ((c.sp mp ⟨14, dn, nn', mn, imm, cond⟩).c.R.getD mn 0 % 256) = bn := (by unfold Ch.sp; dsimp only; rw [get15 _ (by omega), hrm]; exact HBN.out)
    rw [hF, hB, shifted_shN _ 14 rd bn dn HUF.out] at e
    exact e
  have q18 := HCA.out.rest.2.2.1
  go_wp2_with fail
  go_quiet (fail)
  obtain ⟨wq, hwq⟩ : ∃ wq, wq = wA.drewN nq := ⟨_, rfl⟩
  have hOQ : Only (fun _ => False) wA wq := by rw [hwq]; exact (Only.refl _ _).drewN _
  have HCQ := Lib.hid (HCA.out.only hOQ id)
  have HWQ := Lib.hid (HWS.out.only hOQ id)
  have HMQ := Lib.hid (rm_only HMA.out hOQ id id)
  have HOQ := Lib.hid hOQ
  have c0 : wq.cell? ⟨ip, 0, none⟩ = some (.int .i64 14) := by rw [hwq]; exact i0'
  have c1 : wq.cell? ⟨ip, 1, none⟩ = some (.int .i64 dn) := by rw [hwq]; exact i1'
  rw [← hwq]
  clear hwq hOQ
  clear q18
  go_wp2_with fail
  go_loopw [26, 27, 28] (fun x b i wx => ∃ j : Nat, j ≤ bn ∧ i = .int .i64 j ∧ x = .int .u32 (shN 14 rd c.cf j).1 ∧ b = .bool (shN 14 rd c.cf j).2 ∧ wx = wq) (fun _ _ i _ => bn - (intOf i).toNat)
  case atStart => exact ⟨0, by omega, rfl, rfl, rfl, rfl⟩
  case round =>
    obtain ⟨j, hj, rfl, rfl, rfl, rfl⟩ := hrel
    have HUS := Lib.hid (shN_U (op := 14) (cf := c.cf) HUF.out j)
    have HS1 : Hid (shN 14 rd c.cf (j + 1) = sh1 14 (shN 14 rd c.cf j).1) := rfl
    have hsg := wrap32_sg HUS.out
    obtain ⟨hz0, hz1⟩ := HUS.out
    obtain ⟨z, hz⟩ : ∃ z, shN 14 rd c.cf j = z := ⟨_, rfl⟩
    rw [hz] at HUS HS1 hsg hz0 hz1 ⊢
    obtain ⟨y, b⟩ := z
    dsimp only at HUS HS1 hsg hz0 hz1 ⊢
    have HZ := Lib.hid hz
    clear hz
    by_cases hlt : (j : Int) < bn
    · go_wp2_with fail
      refine ⟨⟨j + 1, by omega, by go_num, ?_, ?_, by trivial⟩, by simp [intOf]; omega⟩
      · rw [HS1.out]; rfl
      · rw [HS1.out]; rfl
    · have hjb : j = bn := by omega
      subst hjb
      have k1 := HCQ.out.1.frozen 18
      have k2 := HCQ.out.rest.2.2.1
      have k3 := HCQ.out.reg (k := dn) (by omega)
      have k4 := HCQ.out.1.frozen dn
      have hdi : (dn : Int) < 16 := by omega
      have h2 := (HCQ.out.setReg (k := dn) (x := y) (by omega) HUS.out).setCf b
      have HNZ := Lib.hid (nz_c _ cp _ y h2 HUS.out)
      have HO2 := Lib.hid ((HOQ.out.mono (T := fun k => k = cp) (fun _ _ h => h.elim)).setCell (p := ⟨cp, dn, none⟩) (.inl rfl) (.int .u32 y) |>.setCell (p := ⟨cp, 18, none⟩) (.inl rfl) (.bool b))
      clear h2
      go_wp2_with fail
      refine (HNZ.out).mono ?_
      rintro e w3 ⟨rfl, hc3, ho3⟩
      have hO : Only (fun j => j = cp) wA w3 := HO2.out.trans ho3 (fun _ _ h => h)
      go_wp2_with fail
      obtain ⟨a1, a2⟩ := rapart HCA.out HMA.out
      refine rmeet hJ rfl _ f ⟨by omega, by omega⟩ hc3 (HWS.out.only hO (fun e => hws2 e.symm)) (rm_only HMA.out hO a1 a2) (hO.mono (fun _ _ h => .inl h)) (fun h => by cases h) (fun _ mp => ?_)
      have hx := HEX.out mp
      rw [HZ.out] at hx
      refine sp_end hst hpc HF hx rfl ?_ rfl rfl
      unfold Sp.setR Sp.sign Ch.sp
      dsimp only
      rw [hpc, List.set_comm _ _ (by omega)]
      rfl
set_option maxHeartbeats 16000000 in
set_option maxRecDepth 100000 in
theorem rarm_15 : rsw.1 15 := by
  delta rsw
  dsimp only
  intro c _ _ _ f hst _ _ _ hpc _ _ _ _ _ _ _ _ _ _ _ _ _ _ _ _ _ _ _ _ _ _ _ _ _ _ _ k imm cond _ _ ip _ wA _ HWS dn _ _ nn' _ _ mn _ _ HF HIR HRT _ i0' i1' _ _ _ rd hrd _ _ rm' hrm _ _ _ _ _ _ HMA _ cp HCA _ _ _ hws2 hJ
  have hf1 := HCA.out.1.frozen dn
  have hk : k = 1 := by simpa using HIR.out.2
  subst hk
  obtain ⟨l1, l2, l3⟩ := low15 HRT.out (by simp)
  have HUrd : Hid (U rd) := by show U _; rw [← hrd]; exact HCA.out.2.reg (by omega)
  have HUrm : Hid (U rm') := by show U _; rw [← hrm]; exact HCA.out.2.reg (by omega)
  have HUF : Hid (U rd) := HUrd
  have hum := HUrm.out
  unfold U at hum
  obtain ⟨bn, hbn⟩ : ∃ bn : Nat, rm' % 256 = bn := ⟨(rm' % 256).toNat, by omega⟩
  have hb := and255_32 HUrm.out
  rw [hbn] at hb
  have hbl : (bn : Int) < 256 := by omega
  have HBN := Lib.hid hbn
  clear hbn hum
  have HEX : Hid (∀ mp : Value, (c.sp mp ⟨15, dn, nn', mn, imm, cond⟩).exec f = ((Sp.sign { c.sp mp ⟨15, dn, nn', mn, imm, cond⟩ with c := { (c.sp mp ⟨15, dn, nn', mn, imm, cond⟩).c with cf := (shN 15 rd c.cf bn).2 } } (shN 15 rd c.cf bn).1).setR dn (shN 15 rd c.cf bn).1, f)) := fun mp => by
    have e : (c.sp mp ⟨15, dn, nn', mn, imm, cond⟩).exec f = ((c.sp mp ⟨15, dn, nn', mn, imm, cond⟩).shifted 15 ((c.sp mp ⟨15, dn, nn', mn, imm, cond⟩).c.R.getD dn 0) ((c.sp mp ⟨15, dn, nn', mn, imm, cond⟩).c.R.getD mn 0 % 256) dn, f) := by rfl
    have hF : (c.sp mp ⟨15, dn, nn', mn, imm, cond⟩).c.R.getD dn 0 = rd := by unfold Ch.sp; dsimp only; rw [get15 _ (by omega), hrd]
    have hB : ((c.sp mp ⟨15, dn, nn', mn, imm, cond⟩).c.R.getD mn 0 % 256) = bn := (by unfold Ch.sp; dsimp only; rw [get15 _ (by omega), hrm]; exact HBN.out)
    rw [hF, hB, shifted_shN _ 15 rd bn dn HUF.out] at e
    exact e
  have q18 := HCA.out.rest.2.2.1
  go_wp2_with fail
  go_quiet (fail)
  obtain ⟨wq, hwq⟩ : ∃ wq, wq = wA.drewN nq := ⟨_, rfl⟩
  have hOQ : Only (fun _ => False) wA wq := by rw [hwq]; exact (Only.refl _ _).drewN _
  have HCQ := Lib.hid (HCA.out.only hOQ id)
  have HWQ := Lib.hid (HWS.out.only hOQ id)
  have HMQ := Lib.hid (rm_only HMA.out hOQ id id)
  have HOQ := Lib.hid hOQ
  have c0 : wq.cell? ⟨ip, 0, none⟩ = some (.int .i64 15) := by rw [hwq]; exact i0'
  have c1 : wq.cell? ⟨ip, 1, none⟩ = some (.int .i64 dn) := by rw [hwq]; exact i1'
  rw [← hwq]
  clear hwq hOQ
  clear q18
  go_wp2_with fail
  go_loopw [26, 27, 28] (fun x b i wx => ∃ j : Nat, j ≤ bn ∧ i = .int .i64 j ∧ x = .int .u32 (shN 15 rd c.cf j).1 ∧ b = .bool (shN 15 rd c.cf j).2 ∧ wx = wq) (fun _ _ i _ => bn - (intOf i).toNat)
  case atStart => exact ⟨0, by omega, rfl, rfl, rfl, rfl⟩
  case round =>
    obtain ⟨j, hj, rfl, rfl, rfl, rfl⟩ := hrel
    have HUS := Lib.hid (shN_U (op := 15) (cf := c.cf) HUF.out j)
    have HS1 : Hid (shN 15 rd c.cf (j + 1) = sh1 15 (shN 15 rd c.cf j).1) := rfl
    have hsg := wrap32_sg HUS.out
    obtain ⟨hz0, hz1⟩ := HUS.out
    obtain ⟨z, hz⟩ : ∃ z, shN 15 rd c.cf j = z := ⟨_, rfl⟩
    rw [hz] at HUS HS1 hsg hz0 hz1 ⊢
    obtain ⟨y, b⟩ := z
    dsimp only at HUS HS1 hsg hz0 hz1 ⊢
    have HZ := Lib.hid hz
    clear hz
    by_cases hlt : (j : Int) < bn
    · go_wp2_with fail
      refine ⟨⟨j + 1, by omega, by go_num, ?_, ?_, by trivial⟩, by simp [intOf]; omega⟩
      · rw [HS1.out]; rfl
      · rw [HS1.out]; rfl
    · have hjb : j = bn := by omega
      subst hjb
      have k1 := HCQ.out.1.frozen 18
      have k2 := HCQ.out.rest.2.2.1
      have k3 := HCQ.out.reg (k := dn) (by omega)
      have k4 := HCQ.out.1.frozen dn
      have hdi : (dn : Int) < 16 := by omega
      have h2 := (HCQ.out.setReg (k := dn) (x := y) (by omega) HUS.out).setCf b
      have HNZ := Lib.hid (nz_c _ cp _ y h2 HUS.out)
      have HO2 := Lib.hid ((HOQ.out.mono (T := fun k => k = cp) (fun _ _ h => h.elim)).setCell (p := ⟨cp, dn, none⟩) (.inl rfl) (.int .u32 y) |>.setCell (p := ⟨cp, 18, none⟩) (.inl rfl) (.bool b))
      clear h2
      go_wp2_with fail
      refine (HNZ.out).mono ?_
      rintro e w3 ⟨rfl, hc3, ho3⟩
      have hO : Only (fun j => j = cp) wA w3 := HO2.out.trans ho3 (fun _ _ h => h)
      go_wp2_with fail
      obtain ⟨a1, a2⟩ := rapart HCA.out HMA.out
      refine rmeet hJ rfl _ f ⟨by omega, by omega⟩ hc3 (HWS.out.only hO (fun e => hws2 e.symm)) (rm_only HMA.out hO a1 a2) (hO.mono (fun _ _ h => .inl h)) (fun h => by cases h) (fun _ mp => ?_)
      have hx := HEX.out mp
      rw [HZ.out] at hx
      refine sp_end hst hpc HF hx rfl ?_ rfl rfl
      unfold Sp.setR Sp.sign Ch.sp
      dsimp only
      rw [hpc, List.set_comm _ _ (by omega)]
      rfl
set_option maxHeartbeats 16000000 in
set_option maxRecDepth 100000 in
theorem rarm_16 : rsw.1 16 := by
  delta rsw
  dsimp only
  intro c _ _ _ f hst _ _ _ hpc _ _ _ _ _ _ _ _ _ _ _ _ _ _ _ _ _ _ _ _ _ _ _ _ _ _ _ k imm cond _ _ ip _ wA _ HWS dn _ _ nn' _ _ mn _ _ HF HIR HRT _ i0' i1' _ _ _ rd hrd _ _ rm' hrm _ _ _ _ _ _ HMA _ cp HCA _ _ _ hws2 hJ
  have hf1 := HCA.out.1.frozen dn
  have hk : k = 1 := by simpa using HIR.out.2
  subst hk
  obtain ⟨l1, l2, l3⟩ := low15 HRT.out (by simp)
  have HUrd : Hid (U rd) := by show U _; rw [← hrd]; exact HCA.out.2.reg (by omega)
  have HUrm : Hid (U rm') := by show U _; rw [← hrm]; exact HCA.out.2.reg (by omega)
  have HUF : Hid (U rd) := HUrd
  have hum := HUrm.out
  unfold U at hum
  obtain ⟨bn, hbn⟩ : ∃ bn : Nat, rm' % 256 = bn := ⟨(rm' % 256).toNat, by omega⟩
  have hb := and255_32 HUrm.out
  rw [hbn] at hb
  have hbl : (bn : Int) < 256 := by omega
  have HBN := Lib.hid hbn
  clear hbn hum
  have HEX : Hid (∀ mp : Value, (c.sp mp ⟨16, dn, nn', mn, imm, cond⟩).exec f = ((Sp.sign { c.sp mp ⟨16, dn, nn', mn, imm, cond⟩ with c := { (c.sp mp ⟨16, dn, nn', mn, imm, cond⟩).c with cf := (shN 16 rd c.cf bn).2 } } (shN 16 rd c.cf bn).1).setR dn (shN 16 rd c.cf bn).1, f)) := fun mp => by
    have e : (c.sp mp ⟨16, dn, nn', mn, imm, cond⟩).exec f = ((c.sp mp ⟨16, dn, nn', mn, imm, cond⟩).shifted 16 ((c.sp mp ⟨16, dn, nn', mn, imm, cond⟩).c.R.getD dn 0) ((c.sp mp ⟨16, dn, nn', mn, imm, cond⟩).c.R.getD mn 0 % 256) dn, f) := by rfl
    have hF : (c.sp mp ⟨16, dn, nn', mn, imm, cond⟩).c.R.getD dn 0 = rd := by unfold Ch.sp; dsimp only; rw [get15 _ (by omega), hrd]
    have hB : ((c.sp mp ⟨16, dn, nn', mn, imm, cond⟩).c.R.getD mn 0 % 256) = bn := (by unfold Ch.sp; dsimp only; rw [get15 _ (by omega), hrm]; exact HBN.out)
    rw [hF, hB, shifted_shN _ 16 rd bn dn HUF.out] at e
    exact e
  have q18 := HCA.out.rest.2.2.1
  go_wp2_with fail
  go_quiet (fail)
  obtain ⟨wq, hwq⟩ : ∃ wq, wq = wA.drewN nq := ⟨_, rfl⟩
  have hOQ : Only (fun _ => False) wA wq := by rw [hwq]; exact (Only.refl _ _).drewN _
  have HCQ := Lib.hid (HCA.out.only hOQ id)
  have HWQ := Lib.hid (HWS.out.only hOQ id)
  have HMQ := Lib.hid (rm_only HMA.out hOQ id id)
  have HOQ := Lib.hid hOQ
  have c0 : wq.cell? ⟨ip, 0, none⟩ = some (.int .i64 16) := by rw [hwq]; exact i0'
  have c1 : wq.cell? ⟨ip, 1, none⟩ = some (.int .i64 dn) := by rw [hwq]; exact i1'
  rw [← hwq]
  clear hwq hOQ
  clear q18
  go_wp2_with fail
  go_loopw [26, 27, 28] (fun x b i wx => ∃ j : Nat, j ≤ bn ∧ i = .int .i64 j ∧ x = .int .u32 (shN 16 rd c.cf j).1 ∧ b = .bool (shN 16 rd c.cf j).2 ∧ wx = wq) (fun _ _ i _ => bn - (intOf i).toNat)
  case atStart => exact ⟨0, by omega, rfl, rfl, rfl, rfl⟩
  case round =>
    obtain ⟨j, hj, rfl, rfl, rfl, rfl⟩ := hrel
    have HUS := Lib.hid (shN_U (op := 16) (cf := c.cf) HUF.out j)
    have HS1 : Hid (shN 16 rd c.cf (j + 1) = sh1 16 (shN 16 rd c.cf j).1) := rfl
    have hsg := wrap32_sg HUS.out
    obtain ⟨hz0, hz1⟩ := HUS.out
    obtain ⟨z, hz⟩ : ∃ z, shN 16 rd c.cf j = z := ⟨_, rfl⟩
    rw [hz] at HUS HS1 hsg hz0 hz1 ⊢
    obtain ⟨y, b⟩ := z
    dsimp only at HUS HS1 hsg hz0 hz1 ⊢
    have HZ := Lib.hid hz
    clear hz
    by_cases hlt : (j : Int) < bn
    · go_wp2_with fail
      refine ⟨⟨j + 1, by omega, by go_num, ?_, ?_, by trivial⟩, by simp [intOf]; omega⟩
      · rw [HS1.out]; rfl
      · rw [HS1.out]; rfl
    · have hjb : j = bn := by omega
      subst hjb
      have k1 := HCQ.out.1.frozen 18
      have k2 := HCQ.out.rest.2.2.1
      have k3 := HCQ.out.reg (k := dn) (by omega)
      have k4 := HCQ.out.1.frozen dn
      have hdi : (dn : Int) < 16 := by omega
      have h2 := (HCQ.out.setReg (k := dn) (x := y) (by omega) HUS.out).setCf b
      have HNZ := Lib.hid (nz_c _ cp _ y h2 HUS.out)
      have HO2 := Lib.hid ((HOQ.out.mono (T := fun k => k = cp) (fun _ _ h => h.elim)).setCell (p := ⟨cp, dn, none⟩) (.inl rfl) (.int .u32 y) |>.setCell (p := ⟨cp, 18, none⟩) (.inl rfl) (.bool b))
      clear h2
      go_wp2_with fail
      refine (HNZ.out).mono ?_
      rintro e w3 ⟨rfl, hc3, ho3⟩
      have hO : Only (fun j => j = cp) wA w3 := HO2.out.trans ho3 (fun _ _ h => h)
      go_wp2_with fail
      obtain ⟨a1, a2⟩ := rapart HCA.out HMA.out
      refine rmeet hJ rfl _ f ⟨by omega, by omega⟩ hc3 (HWS.out.only hO (fun e => hws2 e.symm)) (rm_only HMA.out hO a1 a2) (hO.mono (fun _ _ h => .inl h)) (fun h => by cases h) (fun _ mp => ?_)
      have hx := HEX.out mp
      rw [HZ.out] at hx
      refine sp_end hst hpc HF hx rfl ?_ rfl rfl
      unfold Sp.setR Sp.sign Ch.sp
      dsimp only
      rw [hpc, List.set_comm _ _ (by omega)]
      rfl
set_option maxHeartbeats 16000000 in
set_option maxRecDepth 100000 in
theorem rarm_19 : rsw.1 19 := by
  delta rsw
  dsimp only
  intro c _ _ _ f hst _ _ _ hpc _ _ _ _ _ _ _ _ _ _ _ _ _ _ _ _ _ _ _ _ _ _ _ _ _ _ _ k imm cond _ _ ip _ wA _ HWS dn _ _ nn' _ _ mn _ _ HF HIR HRT _ i0' i1' _ _ _ rd hrd _ _ rm' hrm _ _ _ _ _ _ HMA _ cp HCA _ _ _ hws2 hJ
  have hf1 := HCA.out.1.frozen dn
  have hk : k = 1 := by simpa using HIR.out.2
  subst hk
  obtain ⟨l1, l2, l3⟩ := low15 HRT.out (by simp)
  have HUrd : Hid (U rd) := by show U _; rw [← hrd]; exact HCA.out.2.reg (by omega)
  have HUrm : Hid (U rm') := by show U _; rw [← hrm]; exact HCA.out.2.reg (by omega)
  have HUF : Hid (U rd) := HUrd
  have hum := HUrm.out
  unfold U at hum
  obtain ⟨bn, hbn⟩ : ∃ bn : Nat, rm' % 256 = bn := ⟨(rm' % 256).toNat, by omega⟩
  have hb := and255_32 HUrm.out
  rw [hbn] at hb
  have hbl : (bn : Int) < 256 := by omega
  have HBN := Lib.hid hbn
  clear hbn hum
  have HEX : Hid (∀ mp : Value, (c.sp mp ⟨19, dn, nn', mn, imm, cond⟩).exec f = ((Sp.sign { c.sp mp ⟨19, dn, nn', mn, imm, cond⟩ with c := { (c.sp mp ⟨19, dn, nn', mn, imm, cond⟩).c with cf := (shN 19 rd c.cf bn).2 } } (shN 19 rd c.cf bn).1).setR dn (shN 19 rd c.cf bn).1, f)) := fun mp => by
    have e : (c.sp mp ⟨19, dn, nn', mn, imm, cond⟩).exec f = ((c.sp mp ⟨19, dn, nn', mn, imm, cond⟩).shifted 19 ((c.sp mp ⟨19, dn, nn', mn, imm, cond⟩).c.R.getD dn 0) ((c.sp mp ⟨19, dn, nn', mn, imm, cond⟩).c.R.getD mn 0 % 256) dn, f) := by rfl
    have hF : (c.sp mp ⟨19, dn, nn', mn, imm, cond⟩).c.R.getD dn 0 = rd := by unfold Ch.sp; dsimp only; rw [get15 _ (by omega), hrd]
    have hB : ((c.sp mp ⟨19, dn, nn', mn, imm, cond⟩).c.R.getD mn 0 % 256) = bn := (by unfold Ch.sp; dsimp only; rw [get15 _ (by omega), hrm]; exact HBN.out)
    rw [hF, hB, shifted_shN _ 19 rd bn dn HUF.out] at e
    exact e
  have q18 := HCA.out.rest.2.2.1
  go_wp2_with fail
  go_quiet (fail)
  obtain ⟨wq, hwq⟩ : ∃ wq, wq = wA.drewN nq := ⟨_, rfl⟩
  have hOQ : Only (fun _ => False) wA wq := by rw [hwq]; exact (Only.refl _ _).drewN _
  have HCQ := Lib.hid (HCA.out.only hOQ id)
  have HWQ := Lib.hid (HWS.out.only hOQ id)
  have HMQ := Lib.hid (rm_only HMA.out hOQ id id)
  have HOQ := Lib.hid hOQ
  have c0 : wq.cell? ⟨ip, 0, none⟩ = some (.int .i64 19) := by rw [hwq]; exact i0'
  have c1 : wq.cell? ⟨ip, 1, none⟩ = some (.int .i64 dn) := by rw [hwq]; exact i1'
  rw [← hwq]
  clear hwq hOQ
  clear q18
  go_wp2_with fail
  go_loopw [26, 27, 28] (fun x b i wx => ∃ j : Nat, j ≤ bn ∧ i = .int .i64 j ∧ x = .int .u32 (shN 19 rd c.cf j).1 ∧ b = .bool (shN 19 rd c.cf j).2 ∧ wx = wq) (fun _ _ i _ => bn - (intOf i).toNat)
  case atStart => exact ⟨0, by omega, rfl, rfl, rfl, rfl⟩
  case round =>
    obtain ⟨j, hj, rfl, rfl, rfl, rfl⟩ := hrel
    have HUS := Lib.hid (shN_U (op := 19) (cf := c.cf) HUF.out j)
    have HS1 : Hid (shN 19 rd c.cf (j + 1) = sh1 19 (shN 19 rd c.cf j).1) := rfl
    have hsg := wrap32_sg HUS.out
    obtain ⟨hz0, hz1⟩ := HUS.out
    obtain ⟨z, hz⟩ : ∃ z, shN 19 rd c.cf j = z := ⟨_, rfl⟩
    rw [hz] at HUS HS1 hsg hz0 hz1 ⊢
    obtain ⟨y, b⟩ := z
    dsimp only at HUS HS1 hsg hz0 hz1 ⊢
    have HZ := Lib.hid hz
    clear hz
    by_cases hlt : (j : Int) < bn
    · go_wp2_with fail
      refine ⟨⟨j + 1, by omega, by go_num, ?_, ?_, by trivial⟩, by simp [intOf]; omega⟩
      · rw [HS1.out]; rfl
      · rw [HS1.out]; rfl
    · have hjb : j = bn := by omega
      subst hjb
      have k1 := HCQ.out.1.frozen 18
      have k2 := HCQ.out.rest.2.2.1
      have k3 := HCQ.out.reg (k := dn) (by omega)
      have k4 := HCQ.out.1.frozen dn
      have hdi : (dn : Int) < 16 := by omega
      have h2 := (HCQ.out.setReg (k := dn) (x := y) (by omega) HUS.out).setCf b
      have HNZ := Lib.hid (nz_c _ cp _ y h2 HUS.out)
      have HO2 := Lib.hid ((HOQ.out.mono (T := fun k => k = cp) (fun _ _ h => h.elim)).setCell (p := ⟨cp, dn, none⟩) (.inl rfl) (.int .u32 y) |>.setCell (p := ⟨cp, 18, none⟩) (.inl rfl) (.bool b))
      clear h2
      go_wp2_with fail
      refine (HNZ.out).mono ?_
      rintro e w3 ⟨rfl, hc3, ho3⟩
      have hO : Only (fun j => j = cp) wA w3 := HO2.out.trans ho3 (fun _ _ h => h)
      go_wp2_with fail
      obtain ⟨a1, a2⟩ := rapart HCA.out HMA.out
      refine rmeet hJ rfl _ f ⟨by omega, by omega⟩ hc3 (HWS.out.only hO (fun e => hws2 e.symm)) (rm_only HMA.out hO a1 a2) (hO.mono (fun _ _ h => .inl h)) (fun h => by cases h) (fun _ mp => ?_)
      have hx := HEX.out mp
      rw [HZ.out] at hx
      refine sp_end hst hpc HF hx rfl ?_ rfl rfl
      unfold Sp.setR Sp.sign Ch.sp
      dsimp only
      rw [hpc, List.set_comm _ _ (by omega)]
      rfl
end Go.Proofs.Ytpihjhfaeloapaa
