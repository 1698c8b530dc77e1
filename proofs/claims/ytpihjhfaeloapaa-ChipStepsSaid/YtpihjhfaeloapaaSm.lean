/- The document's Step: the rest. PRINTED by gense.py. -/
import Derived.Test.YtpihjhfaeloapaaVl
import Derived.Test.YtpihjhfaeloapaaVk
import Derived.Test.YtpihjhfaeloapaaSh
import Derived.BigQuiet
import Derived.Deep.QuietTactic
import Derived.Deep.RegionHeld3
import Derived.Laws.BitsAllLaws
namespace Go.Proofs.Ytpihjhfaeloapaa
open Go.RowKit On Th
set_option maxHeartbeats 16000000 in
set_option maxRecDepth 100000 in
theorem rarm_37 : rsw.1 37 := by
  delta rsw
  dsimp only
  intro c _ _ _ f hst _ _ _ hpc _ _ _ _ _ _ _ _ _ _ _ _ _ _ _ _ _ _ _ _ _ _ _ _ _ _ _ k imm _ _ _ _ _ wA _ HWS dn _ _ _ _ _ _ _ _ HF HIR HRT _ _ _ _ _ _ _ _ _ _ _ _ _ _ _ _ _ _ HMA _ cp HCA _ _ _ hws2 hJ
  have hf1 := HCA.out.1.frozen dn
  have hk : k = 1 := by simpa using HIR.out.2
  subst hk
  obtain ⟨l1, l2, l3⟩ := low15 HRT.out (by simp)
  have HUk : Hid (U imm) := by show U _; have := HIR.out.1.low0 (by simp); have := HIR.out.1.sp (by simp); dsimp only at *; unfold U; omega
  have him : imm % 4294967296 = imm := by have := HUk.out; unfold U at this; omega
  obtain ⟨r13, hr13⟩ : ∃ x, c.R.getD 13 0 = x := ⟨_, rfl⟩
  have HU13 : Hid (U r13) := by show U _; rw [← hr13]; exact HCA.out.2.reg (by omega)
  have q13 := HCA.out.reg (k := 13) (by omega)
  rw [hr13] at q13
  have hf13 := HCA.out.1.frozen 13
  go_wp2_with fail
  have hO : Only (fun j => j = cp) wA (wA.setCell ⟨cp, 13, none⟩ (.int .u32 ((r13 + imm) % 4294967296))) := Only.setCell (p := ⟨cp, 13, none⟩) (Only.refl (fun j => j = cp) wA) (.inl rfl) _
  obtain ⟨a1, a2⟩ := rapart HCA.out HMA.out
  refine rmeet hJ rfl { c with R := c.R.set 13 ((r13 + imm) % 4294967296) } f ⟨by omega, by omega⟩ (HCA.out.setReg (by omega) (by unfold U; omega)) (HWS.out.only hO (fun e => hws2 e.symm)) (rm_only HMA.out hO a1 a2) (hO.mono (fun _ _ h => .inl h)) (fun h => by cases h) (fun _ mp => ?_)
  refine sp_end hst hpc HF (s' := (c.sp mp _).setR 13 (((c.sp mp _).c.R.getD 13 0 + imm) % 4294967296)) (by rfl) rfl ?_ rfl rfl
  unfold Sp.setR Ch.sp
  dsimp only
  rw [get15 _ (by omega), hr13, hpc, List.set_comm _ _ (by omega)]
  rfl
set_option maxHeartbeats 16000000 in
set_option maxRecDepth 100000 in
theorem rarm_38 : rsw.1 38 := by
  delta rsw
  dsimp only
  intro c _ _ _ f hst _ _ _ hpc _ _ _ _ _ _ _ _ _ _ _ _ _ _ _ _ _ _ _ _ _ _ _ _ _ _ _ k imm _ _ _ _ _ wA _ HWS dn _ _ _ _ _ _ _ _ HF HIR HRT _ _ _ _ _ _ _ _ _ _ _ _ _ _ _ _ _ _ HMA _ cp HCA _ _ _ hws2 hJ
  have hf1 := HCA.out.1.frozen dn
  have hk : k = 1 := by simpa using HIR.out.2
  subst hk
  obtain ⟨l1, l2, l3⟩ := low15 HRT.out (by simp)
  have HUk : Hid (U imm) := by show U _; have := HIR.out.1.low0 (by simp); have := HIR.out.1.sp (by simp); dsimp only at *; unfold U; omega
  have him : imm % 4294967296 = imm := by have := HUk.out; unfold U at this; omega
  obtain ⟨r13, hr13⟩ : ∃ x, c.R.getD 13 0 = x := ⟨_, rfl⟩
  have HU13 : Hid (U r13) := by show U _; rw [← hr13]; exact HCA.out.2.reg (by omega)
  have q13 := HCA.out.reg (k := 13) (by omega)
  rw [hr13] at q13
  have hf13 := HCA.out.1.frozen 13
  go_wp2_with fail
  have hO : Only (fun j => j = cp) wA (wA.setCell ⟨cp, 13, none⟩ (.int .u32 ((r13 - imm) % 4294967296))) := Only.setCell (p := ⟨cp, 13, none⟩) (Only.refl (fun j => j = cp) wA) (.inl rfl) _
  obtain ⟨a1, a2⟩ := rapart HCA.out HMA.out
  refine rmeet hJ rfl { c with R := c.R.set 13 ((r13 - imm) % 4294967296) } f ⟨by omega, by omega⟩ (HCA.out.setReg (by omega) (by unfold U; omega)) (HWS.out.only hO (fun e => hws2 e.symm)) (rm_only HMA.out hO a1 a2) (hO.mono (fun _ _ h => .inl h)) (fun h => by cases h) (fun _ mp => ?_)
  refine sp_end hst hpc HF (s' := (c.sp mp _).setR 13 (((c.sp mp _).c.R.getD 13 0 - imm) % 4294967296)) (by rfl) rfl ?_ rfl rfl
  unfold Sp.setR Ch.sp
  dsimp only
  rw [get15 _ (by omega), hr13, hpc, List.set_comm _ _ (by omega)]
  rfl
set_option maxHeartbeats 16000000 in
set_option maxRecDepth 100000 in
theorem rarm_44 : rsw.1 44 := by
  delta rsw
  dsimp only
  intro c _ _ _ f hst _ _ _ hpc _ _ _ _ _ _ _ _ _ _ _ _ _ _ _ _ _ _ _ _ _ _ _ _ _ _ _ k imm _ _ _ _ _ wA _ HWS dn _ _ _ _ _ _ _ _ HF HIR HRT _ _ _ _ _ _ _ _ _ _ _ _ _ _ _ _ _ _ HMA _ cp HCA _ _ _ hws2 hJ
  have hf1 := HCA.out.1.frozen dn
  have hk : k = 1 := by simpa using HIR.out.2
  subst hk
  obtain ⟨l1, l2, l3⟩ := low15 HRT.out (by simp)
  have f20 := HCA.out.1.frozen 20
  have f21 := HCA.out.1.frozen 21
  obtain ⟨_, _, _, _, q20, q21, _⟩ := HCA.out.rest
  have hC : ChW ((wA.setCell ⟨cp, 20, none⟩ (.int .i64 1)).setCell ⟨cp, 21, none⟩ (.int .i64 imm)) cp { c with st := 1, num := imm } := (HCA.out.setSt 1).put 21 _ (Ch.set_num (HCA.out.setSt 1).2 _) ⟨HCA.out.2.len, HCA.out.2.u⟩
  have HCC := Lib.hid hC
  clear hC
  go_wp2_with fail
  have hO : Only (fun j => j = cp) wA ((wA.setCell ⟨cp, 20, none⟩ (.int .i64 1)).setCell ⟨cp, 21, none⟩ (.int .i64 imm)) := (Only.setCell (p := ⟨cp, 20, none⟩) (Only.refl (fun j => j = cp) wA) (.inl rfl) _).setCell (p := ⟨cp, 21, none⟩) (.inl rfl) _
  obtain ⟨a1, a2⟩ := rapart HCA.out HMA.out
  refine rmeet hJ rfl { c with st := 1, num := imm } f ⟨by omega, by omega⟩ HCC.out (HWS.out.only hO (fun e => hws2 e.symm)) (rm_only HMA.out hO a1 a2) (hO.mono (fun _ _ h => .inl h)) (fun h => by cases h) (fun _ mp => ?_)
  refine sp_end hst hpc HF (s' := { c.sp mp _ with c := { (c.sp mp _).c with st := 1, num := imm } }) (by rfl) rfl ?_ rfl rfl
  unfold Ch.sp
  dsimp only
  rw [hpc]
  rfl
set_option maxHeartbeats 16000000 in
set_option maxRecDepth 100000 in
theorem rarm_45 : rsw.1 45 := by
  delta rsw
  dsimp only
  intro c _ _ _ f hst _ _ _ hpc _ _ _ _ _ _ _ _ _ _ _ _ _ _ _ _ _ _ _ _ _ _ _ _ _ _ _ k _ _ _ _ _ _ _ _ HWS dn _ _ _ _ _ _ _ _ HF HIR HRT _ _ _ _ _ _ _ _ _ _ _ _ _ _ _ _ _ _ HMA _ _ HCA _ _ _ _ hJ
  have hf1 := HCA.out.1.frozen dn
  have hk : k = 1 := by simpa using HIR.out.2
  subst hk
  obtain ⟨l1, l2, l3⟩ := low15 HRT.out (by simp)
  go_wp2_with fail
  refine rmeet hJ rfl c f ⟨by omega, by omega⟩ HCA.out HWS.out HMA.out (Only.refl _ _) (fun h => by cases h) (fun _ mp => ?_)
  refine sp_end hst hpc HF (s' := c.sp mp _) (by rfl) rfl ?_ rfl rfl
  unfold Ch.sp
  dsimp only
  rw [hpc]
  rfl
set_option maxHeartbeats 16000000 in
set_option maxRecDepth 100000 in
theorem rarm_41 : rsw.1 41 := by
  delta rsw
  dsimp only
  intro c _ _ _ f hst _ _ pc0 hpc _ _ _ _ _ _ _ _ _ _ _ _ _ _ _ _ _ _ _ _ _ _ _ _ _ _ _ k imm cond _ _ _ AG wA ws HWS dn _ _ nn' _ _ mn _ _ HF HIR HRT HIA _ _ _ _ _ _ _ _ _ _ _ _ _ _ _ _ _ HMA _ _ HCA _ _ _ _ hJ
  have hf1 := HCA.out.1.frozen dn
  have hk : k = 1 := by simpa using HIR.out.2
  subst hk
  obtain ⟨l1, l2, l3⟩ := low15 HRT.out (by simp)
  have hc0 := HIR.out.1.c0
  have hc1 := HIR.out.1.c1
  dsimp only at hc0 hc1
  have i5' := HIA.out.cell 5
  simp at i5'
  have HH := Lib.hid (rholds_c wA c HCA.out.2 cond hc0 hc1)
  have HAGR : Hid (wA.rangeAt ws 0 c.cells) := fun j v hv => by
    rw [Nat.zero_add, HWS.out.1.cell, List.getElem?_toArray]; exact hv
  have HROW := Lib.hid (chip_row HWS.out.2)
  have HBR : Hid (c.holds cond = true → ∀ mp : Value, (c.sp mp ⟨41, dn, nn', mn, imm, cond⟩).exec f = ((c.sp mp ⟨41, dn, nn', mn, imm, cond⟩).branch 3, f)) := fun h mp => by
    have e : (c.sp mp ⟨41, dn, nn', mn, imm, cond⟩).exec f = (if c.holds cond then (c.sp mp ⟨41, dn, nn', mn, imm, cond⟩).branch 3 else c.sp mp ⟨41, dn, nn', mn, imm, cond⟩, f) := by rfl
    rw [e, if_pos h]
  have HBN : Hid (c.holds cond = false → ∀ mp : Value, (c.sp mp ⟨41, dn, nn', mn, imm, cond⟩).exec f = (c.sp mp ⟨41, dn, nn', mn, imm, cond⟩, f)) := fun h mp => by
    have e : (c.sp mp ⟨41, dn, nn', mn, imm, cond⟩).exec f = (if c.holds cond then (c.sp mp ⟨41, dn, nn', mn, imm, cond⟩).branch 3 else c.sp mp ⟨41, dn, nn', mn, imm, cond⟩, f) := by rfl
    rw [e, if_neg (by rw [h]; simp)]
  obtain ⟨AG, hAG⟩ : ∃ AG : List Value, AG = c.cells := ⟨_, rfl⟩
  rw [← hAG] at HH HAGR HROW
  generalize c.holds cond = b at *
  clear hAG
  go_wp2_with (refine wpList_load_mid rfl 44 _ rfl ws 0 rfl AG _ HAGR.out Try.underlying44 rfl HROW.out.1 ?_)
  refine (HH.out).mono ?_
  rintro e w2 ⟨rfl, ho2⟩
  have HC2 := Lib.hid (HCA.out.only ho2 id)
  have HW2 := Lib.hid (HWS.out.only ho2 id)
  have HM2 := Lib.hid (rm_only HMA.out ho2 id id)
  have HO2 := Lib.hid ho2
  clear ho2
  have e1 : (pc0 + 4 + imm) % 4294967296 = ((pc0 + 4) % 4294967296 + imm % 4294967296) % 4294967296 := by omega
  cases b
  all_goals
    go_wp2_with fail
    refine rmeet hJ rfl c f ⟨by omega, by omega⟩ HC2.out HW2.out HM2.out (HO2.out.mono (fun _ _ h => h.elim)) (fun h => by cases h) (fun _ mp => ?_)
  · refine sp_end hst hpc HF (HBN.out (by first | trivial | rfl) mp) rfl ?_ rfl rfl
    unfold Ch.sp
    dsimp only
    rw [hpc]
    rfl
  · refine sp_end hst hpc HF (HBR.out (by first | trivial | rfl) mp) rfl ?_ rfl rfl
    unfold Sp.branch Sp.setR Ch.sp
    dsimp only
    rw [List.set_set, hpc, e1]
set_option maxHeartbeats 16000000 in
set_option maxRecDepth 100000 in
theorem rarm_42 : rsw.1 42 := by
  delta rsw
  dsimp only
  intro c _ _ _ f hst _ _ pc0 hpc _ _ _ _ _ _ _ _ _ _ _ _ _ _ _ _ _ _ _ _ _ _ _ _ _ _ _ k imm _ _ _ _ _ _ _ HWS dn _ _ _ _ _ _ _ _ HF HIR HRT _ _ _ _ _ _ _ _ _ _ _ _ _ _ _ _ _ _ HMA _ _ HCA _ _ _ _ hJ
  have hf1 := HCA.out.1.frozen dn
  have hk : k = 1 := by simpa using HIR.out.2
  subst hk
  obtain ⟨l1, l2, l3⟩ := low15 HRT.out (by simp)
  go_wp2_with fail
  have e1 : (pc0 + 4 + imm) % 4294967296 = ((pc0 + 4) % 4294967296 + imm % 4294967296) % 4294967296 := by omega
  refine rmeet hJ rfl c f ⟨by omega, by omega⟩ HCA.out HWS.out HMA.out (Only.refl _ _) (fun h => by cases h) (fun _ mp => ?_)
  refine sp_end hst hpc HF (s' := (c.sp mp _).branch 3) (by rfl) rfl ?_ rfl rfl
  unfold Sp.branch Sp.setR Ch.sp
  dsimp only
  rw [List.set_set, hpc, e1]
set_option maxHeartbeats 16000000 in
set_option maxRecDepth 100000 in
theorem rarm_43 : rsw.1 43 := by
  delta rsw
  dsimp only
  intro c _ _ _ f hst _ _ pc0 hpc hu0 hu1 _ _ _ _ _ _ _ _ _ _ _ _ _ _ _ _ _ _ _ _ _ _ _ _ _ k _ _ _ _ _ _ wA _ HWS dn _ _ _ _ _ _ _ _ HF HIR _ _ _ _ _ _ _ _ _ _ _ _ _ _ _ _ _ _ _ HMA _ cp HCA _ _ _ hws2 hJ
  have hf1 := HCA.out.1.frozen dn
  have hk : k = 2 := by simpa using HIR.out.2
  subst hk
  obtain ⟨p1, p2⟩ := fetch_at ⟨hu0, hu1⟩ HF.out
  have hor : bits .or .u32 (pc0 + 4) 1 = (pc0 + 4) % 4294967296 + 1 := by
    obtain ⟨n, hn⟩ := Int.eq_ofNat_of_zero_le hu0
    have e : pc0 + 4 = ((2 ^ 1 * (n / 2 + 2) : Nat) : Int) := by omega
    rw [e, u32_or _ _ (by omega) (by omega) (by decide) (by decide), Int.toNat_natCast, show (1 : Int).toNat = 1 from rfl, ← Nat.two_pow_add_eq_or_of_lt (by decide) _]
    omega
  have q14 := HCA.out.reg (k := 14) (by omega)
  have hf14 := HCA.out.1.frozen 14
  go_wp2_with fail
  have hO : Only (fun j => j = cp) wA (wA.setCell ⟨cp, 14, none⟩ (.int .u32 ((pc0 + 4) % 4294967296 + 1))) := Only.setCell (p := ⟨cp, 14, none⟩) (Only.refl (fun j => j = cp) wA) (.inl rfl) _
  obtain ⟨a1, a2⟩ := rapart HCA.out HMA.out
  refine rmeet hJ rfl { c with R := c.R.set 14 ((pc0 + 4) % 4294967296 + 1) } f ⟨by omega, by omega⟩ (HCA.out.setReg (k := 14) (by omega) (by unfold U; omega)) (HWS.out.only hO (fun e => hws2 e.symm)) (rm_only HMA.out hO a1 a2) (hO.mono (fun _ _ h => .inl h)) (fun h => by cases h) (fun _ mp => ?_)
  refine sp_end hst hpc HF (s' := ((c.sp mp _).setR 14 (bits .or .u32 ((c.sp mp _).at_ + 4) 1)).branch 4) (by rfl) rfl ?_ rfl rfl
  unfold Sp.branch Sp.setR Ch.sp
  dsimp only
  rw [hpc, hor, List.set_comm _ _ (by decide : 15 ≠ 14), List.set_set]
end Go.Proofs.Ytpihjhfaeloapaa
