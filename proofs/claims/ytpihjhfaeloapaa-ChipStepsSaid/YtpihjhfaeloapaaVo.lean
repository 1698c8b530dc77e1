/- MERGED by mergev.py: XSk XSl. -/
import Derived.Test.YtpihjhfaeloapaaVl
import Derived.Test.YtpihjhfaeloapaaVk
import Derived.Test.YtpihjhfaeloapaaSh
import Derived.BigQuiet
import Derived.Deep.QuietTactic
import Derived.Deep.RegionHeld3
namespace Go.Proofs.Ytpihjhfaeloapaa
open Go.RowKit On Th
set_option maxHeartbeats 16000000 in
set_option maxRecDepth 100000 in
theorem rarm_29 : rsw.1 29 := by
  delta rsw
  dsimp only
  intro c rm rg _ f hst _ _ _ hpc _ _ _ _ _ _ _ _ _ _ _ _ _ _ _ _ _ _ _ _ _ _ _ _ _ _ _ k imm cond _ _ ip _ wA _ HWS dn _ _ nn' _ _ mn _ _ HF HIR HRT HIA _ i1' _ _ _ rd hrd rn hrn rm' hrm _ _ _ _ _ _ HMA _ cp HCA _ _ _ hws2 hJ
  have hf1 := HCA.out.1.frozen dn
  have hk : k = 1 := by simpa using HIR.out.2
  subst hk
  obtain ⟨l1, l2, l3⟩ := low15 HRT.out (by simp)
  have HUrd : Hid (U rd) := by show U _; rw [← hrd]; exact HCA.out.2.reg (by omega)
  have HUrn : Hid (U rn) := by show U _; rw [← hrn]; exact HCA.out.2.reg (by omega)
  have HUrm : Hid (U rm') := by show U _; rw [← hrm]; exact HCA.out.2.reg (by omega)
  have HUk : Hid (U imm) := by show U _; have := HIR.out.1.low0 (by simp); have := HIR.out.1.mid (by simp); dsimp only at *; unfold U; omega
  have him : imm % 4294967296 = imm := by have := HUk.out; unfold U at this; omega
  obtain ⟨r13, hr13⟩ : ∃ x, c.R.getD 13 0 = x := ⟨_, rfl⟩
  have HU13 : Hid (U r13) := by show U _; rw [← hr13]; exact HCA.out.2.reg (by omega)
  have q13 := HCA.out.reg (k := 13) (by omega)
  rw [hr13] at q13
  have hdi : (dn : Int) < 16 := by omega
  have HFR := Lib.hid HMA.out.2.range
  obtain ⟨a1, a2⟩ := rapart HCA.out HMA.out
  obtain ⟨a3, a4⟩ := rapart HWS.out HMA.out
  obtain ⟨a, ha⟩ : ∃ a, (rn + rm') % 4294967296 = a := ⟨_, rfl⟩
  have hau : 0 ≤ a ∧ a < 4294967296 := by omega
  obtain ⟨ha0, ha1⟩ := hau
  have HAA : Hid (∀ mp : Value, (((c.sp mp ⟨29, dn, nn', mn, imm, cond⟩).c.R.getD nn' 0 + (c.sp mp ⟨29, dn, nn', mn, imm, cond⟩).c.R.getD mn 0) % 4294967296) = a) := fun mp => by unfold Ch.sp; dsimp only; rw [get15 _ (by omega), get15 _ (by omega), hrn, hrm]; exact ha
  have HV := Lib.hid (wordS_U HFR.out a)
  have HC := Lib.hid (rword_c wA rm rg f a HMA.out)
  have HEX : Hid (∀ mp : Value, (c.sp mp ⟨29, dn, nn', mn, imm, cond⟩).exec f = (((c.sp mp ⟨29, dn, nn', mn, imm, cond⟩).setR dn (wordS f a).1).memEnd a (wordS f a).2, f)) := fun mp => by
    have e : (c.sp mp ⟨29, dn, nn', mn, imm, cond⟩).exec f = (((c.sp mp ⟨29, dn, nn', mn, imm, cond⟩).setR dn (wordS f (((c.sp mp ⟨29, dn, nn', mn, imm, cond⟩).c.R.getD nn' 0 + (c.sp mp ⟨29, dn, nn', mn, imm, cond⟩).c.R.getD mn 0) % 4294967296)).1).memEnd (((c.sp mp ⟨29, dn, nn', mn, imm, cond⟩).c.R.getD nn' 0 + (c.sp mp ⟨29, dn, nn', mn, imm, cond⟩).c.R.getD mn 0) % 4294967296) (wordS f (((c.sp mp ⟨29, dn, nn', mn, imm, cond⟩).c.R.getD nn' 0 + (c.sp mp ⟨29, dn, nn', mn, imm, cond⟩).c.R.getD mn 0) % 4294967296)).2, f) := by rfl
    rw [HAA.out mp] at e; exact e
  generalize wordS f a = z at *
  obtain ⟨x, ok⟩ := z
  dsimp only at *
  obtain ⟨hx0, hx1⟩ := HV.out
  have hxw : x % 4294967296 = x := by omega
  go_wp2_with fail
  refine (HC.out).mono ?_
  rintro e w2 ⟨rfl, q2, rfl⟩
  obtain ⟨w2, hw2⟩ : ∃ w2, w2 = wA.drewN q2 := ⟨_, rfl⟩
  have hO2 : Only (fun _ => False) wA w2 := by rw [hw2]; exact (Only.refl _ _).drewN _
  rw [← hw2]
  clear hw2
  have HO2 := Lib.hid hO2
  have HC2 := Lib.hid (HCA.out.only hO2 id)
  have b1 : w2.cell? ⟨ip, 1, none⟩ = some (.int .i64 dn) := by rw [hO2.cell (p := ⟨ip, 1, none⟩) HIA.out.lt id]; exact i1'
  have b2 := HC2.out.reg (k := dn) (by omega)
  have b3 := HC2.out.1.frozen dn
  clear hO2 HC
  have hO : Only (fun j => j = cp) wA (w2.setCell ⟨cp, dn, none⟩ (.int .u32 x)) := (HO2.out.mono (T := fun j => j = cp) (fun _ _ h => h.elim)).setCell (p := ⟨cp, dn, none⟩) (.inl rfl) _
  have HOX := Lib.hid hO
  clear hO
  cases ok
  all_goals
    go_wp2_with fail
    refine rmeet hJ rfl { c with R := c.R.set dn x } f ⟨by omega, by omega⟩ (HC2.out.setReg (by omega) HV.out) (HWS.out.only HOX.out (fun e => hws2 e.symm)) (rm_only HMA.out HOX.out a1 a2) (HOX.out.mono (fun _ _ h => .inl h)) (fun h => ?_) (fun h mp => ?_)
  · intro mp; exact stepS_bad hst (by rw [hpc]; exact HF.out) (HEX.out mp) rfl
  · cases h
  · cases h
  · refine sp_end hst hpc HF (HEX.out mp) rfl ?_ rfl rfl
    unfold Sp.memEnd Sp.setR Ch.sp
    dsimp only
    rw [hpc, List.set_comm _ _ (by omega)]
    rfl
set_option maxHeartbeats 16000000 in
set_option maxRecDepth 100000 in
theorem rarm_31 : rsw.1 31 := by
  delta rsw
  dsimp only
  intro c rm rg _ f hst _ _ _ hpc _ _ _ _ _ _ _ _ _ _ _ _ _ _ _ _ _ _ _ _ _ _ _ _ _ _ _ k imm cond _ _ ip _ wA _ HWS dn _ _ nn' _ _ mn _ _ HF HIR HRT HIA _ i1' _ _ _ rd hrd rn hrn rm' hrm _ _ _ _ _ _ HMA _ cp HCA _ _ _ hws2 hJ
  have hf1 := HCA.out.1.frozen dn
  have hk : k = 1 := by simpa using HIR.out.2
  subst hk
  obtain ⟨l1, l2, l3⟩ := low15 HRT.out (by simp)
  have HUrd : Hid (U rd) := by show U _; rw [← hrd]; exact HCA.out.2.reg (by omega)
  have HUrn : Hid (U rn) := by show U _; rw [← hrn]; exact HCA.out.2.reg (by omega)
  have HUrm : Hid (U rm') := by show U _; rw [← hrm]; exact HCA.out.2.reg (by omega)
  have HUk : Hid (U imm) := by show U _; have := HIR.out.1.low0 (by simp); have := HIR.out.1.mid (by simp); dsimp only at *; unfold U; omega
  have him : imm % 4294967296 = imm := by have := HUk.out; unfold U at this; omega
  obtain ⟨r13, hr13⟩ : ∃ x, c.R.getD 13 0 = x := ⟨_, rfl⟩
  have HU13 : Hid (U r13) := by show U _; rw [← hr13]; exact HCA.out.2.reg (by omega)
  have q13 := HCA.out.reg (k := 13) (by omega)
  rw [hr13] at q13
  have hdi : (dn : Int) < 16 := by omega
  have HFR := Lib.hid HMA.out.2.range
  obtain ⟨a1, a2⟩ := rapart HCA.out HMA.out
  obtain ⟨a3, a4⟩ := rapart HWS.out HMA.out
  obtain ⟨a, ha⟩ : ∃ a, (rn + imm) % 4294967296 = a := ⟨_, rfl⟩
  have hau : 0 ≤ a ∧ a < 4294967296 := by omega
  obtain ⟨ha0, ha1⟩ := hau
  have HAA : Hid (∀ mp : Value, (((c.sp mp ⟨31, dn, nn', mn, imm, cond⟩).c.R.getD nn' 0 + imm) % 4294967296) = a) := fun mp => by unfold Ch.sp; dsimp only; rw [get15 _ (by omega), hrn]; exact ha
  have HV := Lib.hid (wordS_U HFR.out a)
  have HC := Lib.hid (rword_c wA rm rg f a HMA.out)
  have HEX : Hid (∀ mp : Value, (c.sp mp ⟨31, dn, nn', mn, imm, cond⟩).exec f = (((c.sp mp ⟨31, dn, nn', mn, imm, cond⟩).setR dn (wordS f a).1).memEnd a (wordS f a).2, f)) := fun mp => by
    have e : (c.sp mp ⟨31, dn, nn', mn, imm, cond⟩).exec f = (((c.sp mp ⟨31, dn, nn', mn, imm, cond⟩).setR dn (wordS f (((c.sp mp ⟨31, dn, nn', mn, imm, cond⟩).c.R.getD nn' 0 + imm) % 4294967296)).1).memEnd (((c.sp mp ⟨31, dn, nn', mn, imm, cond⟩).c.R.getD nn' 0 + imm) % 4294967296) (wordS f (((c.sp mp ⟨31, dn, nn', mn, imm, cond⟩).c.R.getD nn' 0 + imm) % 4294967296)).2, f) := by rfl
    rw [HAA.out mp] at e; exact e
  generalize wordS f a = z at *
  obtain ⟨x, ok⟩ := z
  dsimp only at *
  obtain ⟨hx0, hx1⟩ := HV.out
  have hxw : x % 4294967296 = x := by omega
  go_wp2_with fail
  refine (HC.out).mono ?_
  rintro e w2 ⟨rfl, q2, rfl⟩
  obtain ⟨w2, hw2⟩ : ∃ w2, w2 = wA.drewN q2 := ⟨_, rfl⟩
  have hO2 : Only (fun _ => False) wA w2 := by rw [hw2]; exact (Only.refl _ _).drewN _
  rw [← hw2]
  clear hw2
  have HO2 := Lib.hid hO2
  have HC2 := Lib.hid (HCA.out.only hO2 id)
  have b1 : w2.cell? ⟨ip, 1, none⟩ = some (.int .i64 dn) := by rw [hO2.cell (p := ⟨ip, 1, none⟩) HIA.out.lt id]; exact i1'
  have b2 := HC2.out.reg (k := dn) (by omega)
  have b3 := HC2.out.1.frozen dn
  clear hO2 HC
  have hO : Only (fun j => j = cp) wA (w2.setCell ⟨cp, dn, none⟩ (.int .u32 x)) := (HO2.out.mono (T := fun j => j = cp) (fun _ _ h => h.elim)).setCell (p := ⟨cp, dn, none⟩) (.inl rfl) _
  have HOX := Lib.hid hO
  clear hO
  cases ok
  all_goals
    go_wp2_with fail
    refine rmeet hJ rfl { c with R := c.R.set dn x } f ⟨by omega, by omega⟩ (HC2.out.setReg (by omega) HV.out) (HWS.out.only HOX.out (fun e => hws2 e.symm)) (rm_only HMA.out HOX.out a1 a2) (HOX.out.mono (fun _ _ h => .inl h)) (fun h => ?_) (fun h mp => ?_)
  · intro mp; exact stepS_bad hst (by rw [hpc]; exact HF.out) (HEX.out mp) rfl
  · cases h
  · cases h
  · refine sp_end hst hpc HF (HEX.out mp) rfl ?_ rfl rfl
    unfold Sp.memEnd Sp.setR Ch.sp
    dsimp only
    rw [hpc, List.set_comm _ _ (by omega)]
    rfl
set_option maxHeartbeats 16000000 in
set_option maxRecDepth 100000 in
theorem rarm_35 : rsw.1 35 := by
  delta rsw
  dsimp only
  intro c rm rg _ f hst _ _ _ hpc _ _ _ _ _ _ _ _ _ _ _ _ _ _ _ _ _ _ _ _ _ _ _ _ _ _ _ k imm cond _ _ ip _ wA _ HWS dn _ _ nn' _ _ mn _ _ HF HIR HRT HIA _ i1' _ _ _ rd hrd rn hrn rm' hrm _ _ _ _ _ _ HMA _ cp HCA _ _ _ hws2 hJ
  have hf1 := HCA.out.1.frozen dn
  have hk : k = 1 := by simpa using HIR.out.2
  subst hk
  obtain ⟨l1, l2, l3⟩ := low15 HRT.out (by simp)
  have HUrd : Hid (U rd) := by show U _; rw [← hrd]; exact HCA.out.2.reg (by omega)
  have HUrn : Hid (U rn) := by show U _; rw [← hrn]; exact HCA.out.2.reg (by omega)
  have HUrm : Hid (U rm') := by show U _; rw [← hrm]; exact HCA.out.2.reg (by omega)
  have HUk : Hid (U imm) := by show U _; have := HIR.out.1.low0 (by simp); have := HIR.out.1.mid (by simp); dsimp only at *; unfold U; omega
  have him : imm % 4294967296 = imm := by have := HUk.out; unfold U at this; omega
  obtain ⟨r13, hr13⟩ : ∃ x, c.R.getD 13 0 = x := ⟨_, rfl⟩
  have HU13 : Hid (U r13) := by show U _; rw [← hr13]; exact HCA.out.2.reg (by omega)
  have q13 := HCA.out.reg (k := 13) (by omega)
  rw [hr13] at q13
  have hdi : (dn : Int) < 16 := by omega
  have HFR := Lib.hid HMA.out.2.range
  obtain ⟨a1, a2⟩ := rapart HCA.out HMA.out
  obtain ⟨a3, a4⟩ := rapart HWS.out HMA.out
  obtain ⟨a, ha⟩ : ∃ a, (r13 + imm) % 4294967296 = a := ⟨_, rfl⟩
  have hau : 0 ≤ a ∧ a < 4294967296 := by omega
  obtain ⟨ha0, ha1⟩ := hau
  have HAA : Hid (∀ mp : Value, (((c.sp mp ⟨35, dn, nn', mn, imm, cond⟩).c.R.getD 13 0 + imm) % 4294967296) = a) := fun mp => by unfold Ch.sp; dsimp only; rw [get15 _ (by omega), hr13]; exact ha
  have HV := Lib.hid (wordS_U HFR.out a)
  have HC := Lib.hid (rword_c wA rm rg f a HMA.out)
  have HEX : Hid (∀ mp : Value, (c.sp mp ⟨35, dn, nn', mn, imm, cond⟩).exec f = (((c.sp mp ⟨35, dn, nn', mn, imm, cond⟩).setR dn (wordS f a).1).memEnd a (wordS f a).2, f)) := fun mp => by
    have e : (c.sp mp ⟨35, dn, nn', mn, imm, cond⟩).exec f = (((c.sp mp ⟨35, dn, nn', mn, imm, cond⟩).setR dn (wordS f (((c.sp mp ⟨35, dn, nn', mn, imm, cond⟩).c.R.getD 13 0 + imm) % 4294967296)).1).memEnd (((c.sp mp ⟨35, dn, nn', mn, imm, cond⟩).c.R.getD 13 0 + imm) % 4294967296) (wordS f (((c.sp mp ⟨35, dn, nn', mn, imm, cond⟩).c.R.getD 13 0 + imm) % 4294967296)).2, f) := by rfl
    rw [HAA.out mp] at e; exact e
  generalize wordS f a = z at *
  obtain ⟨x, ok⟩ := z
  dsimp only at *
  obtain ⟨hx0, hx1⟩ := HV.out
  have hxw : x % 4294967296 = x := by omega
  go_wp2_with fail
  refine (HC.out).mono ?_
  rintro e w2 ⟨rfl, q2, rfl⟩
  obtain ⟨w2, hw2⟩ : ∃ w2, w2 = wA.drewN q2 := ⟨_, rfl⟩
  have hO2 : Only (fun _ => False) wA w2 := by rw [hw2]; exact (Only.refl _ _).drewN _
  rw [← hw2]
  clear hw2
  have HO2 := Lib.hid hO2
  have HC2 := Lib.hid (HCA.out.only hO2 id)
  have b1 : w2.cell? ⟨ip, 1, none⟩ = some (.int .i64 dn) := by rw [hO2.cell (p := ⟨ip, 1, none⟩) HIA.out.lt id]; exact i1'
  have b2 := HC2.out.reg (k := dn) (by omega)
  have b3 := HC2.out.1.frozen dn
  clear hO2 HC
  have hO : Only (fun j => j = cp) wA (w2.setCell ⟨cp, dn, none⟩ (.int .u32 x)) := (HO2.out.mono (T := fun j => j = cp) (fun _ _ h => h.elim)).setCell (p := ⟨cp, dn, none⟩) (.inl rfl) _
  have HOX := Lib.hid hO
  clear hO
  cases ok
  all_goals
    go_wp2_with fail
    refine rmeet hJ rfl { c with R := c.R.set dn x } f ⟨by omega, by omega⟩ (HC2.out.setReg (by omega) HV.out) (HWS.out.only HOX.out (fun e => hws2 e.symm)) (rm_only HMA.out HOX.out a1 a2) (HOX.out.mono (fun _ _ h => .inl h)) (fun h => ?_) (fun h mp => ?_)
  · intro mp; exact stepS_bad hst (by rw [hpc]; exact HF.out) (HEX.out mp) rfl
  · cases h
  · cases h
  · refine sp_end hst hpc HF (HEX.out mp) rfl ?_ rfl rfl
    unfold Sp.memEnd Sp.setR Ch.sp
    dsimp only
    rw [hpc, List.set_comm _ _ (by omega)]
    rfl
set_option maxHeartbeats 16000000 in
set_option maxRecDepth 100000 in
theorem rarm_33 : rsw.1 33 := by
  delta rsw
  dsimp only
  intro c rm rg _ f hst _ _ _ hpc _ _ _ _ _ _ _ _ _ _ _ _ _ _ _ _ _ _ _ _ _ _ _ _ _ _ _ k imm cond _ _ ip _ wA _ HWS dn _ _ nn' _ _ mn _ _ HF HIR HRT HIA _ i1' _ _ _ rd hrd rn hrn rm' hrm _ _ _ _ _ _ HMA _ cp HCA _ _ _ hws2 hJ
  have hf1 := HCA.out.1.frozen dn
  have hk : k = 1 := by simpa using HIR.out.2
  subst hk
  obtain ⟨l1, l2, l3⟩ := low15 HRT.out (by simp)
  have HUrd : Hid (U rd) := by show U _; rw [← hrd]; exact HCA.out.2.reg (by omega)
  have HUrn : Hid (U rn) := by show U _; rw [← hrn]; exact HCA.out.2.reg (by omega)
  have HUrm : Hid (U rm') := by show U _; rw [← hrm]; exact HCA.out.2.reg (by omega)
  have HUk : Hid (U imm) := by show U _; have := HIR.out.1.low0 (by simp); have := HIR.out.1.mid (by simp); dsimp only at *; unfold U; omega
  have him : imm % 4294967296 = imm := by have := HUk.out; unfold U at this; omega
  obtain ⟨r13, hr13⟩ : ∃ x, c.R.getD 13 0 = x := ⟨_, rfl⟩
  have HU13 : Hid (U r13) := by show U _; rw [← hr13]; exact HCA.out.2.reg (by omega)
  have q13 := HCA.out.reg (k := 13) (by omega)
  rw [hr13] at q13
  have hdi : (dn : Int) < 16 := by omega
  have HFR := Lib.hid HMA.out.2.range
  obtain ⟨a1, a2⟩ := rapart HCA.out HMA.out
  obtain ⟨a3, a4⟩ := rapart HWS.out HMA.out
  obtain ⟨a, ha⟩ : ∃ a, (rn + imm) % 4294967296 = a := ⟨_, rfl⟩
  have hau : 0 ≤ a ∧ a < 4294967296 := by omega
  obtain ⟨ha0, ha1⟩ := hau
  have HAA : Hid (∀ mp : Value, (((c.sp mp ⟨33, dn, nn', mn, imm, cond⟩).c.R.getD nn' 0 + imm) % 4294967296) = a) := fun mp => by unfold Ch.sp; dsimp only; rw [get15 _ (by omega), hrn]; exact ha
  have HV := Lib.hid (byteS_U HFR.out a)
  have HC := Lib.hid (rbyte_c wA rm rg f a HMA.out)
  have HEX : Hid (∀ mp : Value, (c.sp mp ⟨33, dn, nn', mn, imm, cond⟩).exec f = (((c.sp mp ⟨33, dn, nn', mn, imm, cond⟩).setR dn (byteS f a).1).memEnd a (byteS f a).2, f)) := fun mp => by
    have e : (c.sp mp ⟨33, dn, nn', mn, imm, cond⟩).exec f = (((c.sp mp ⟨33, dn, nn', mn, imm, cond⟩).setR dn (byteS f (((c.sp mp ⟨33, dn, nn', mn, imm, cond⟩).c.R.getD nn' 0 + imm) % 4294967296)).1).memEnd (((c.sp mp ⟨33, dn, nn', mn, imm, cond⟩).c.R.getD nn' 0 + imm) % 4294967296) (byteS f (((c.sp mp ⟨33, dn, nn', mn, imm, cond⟩).c.R.getD nn' 0 + imm) % 4294967296)).2, f) := by rfl
    rw [HAA.out mp] at e; exact e
  generalize byteS f a = z at *
  obtain ⟨x, ok⟩ := z
  dsimp only at *
  obtain ⟨hx0, hx1⟩ := HV.out
  have hxw : x % 4294967296 = x := by omega
  go_wp2_with fail
  refine (HC.out).mono ?_
  rintro e w2 ⟨rfl, rfl⟩
  have hO2 : Only (fun _ => False) wA wA := Only.refl _ _
  have HO2 := Lib.hid hO2
  have HC2 := Lib.hid (HCA.out.only hO2 id)
  have b1 : wA.cell? ⟨ip, 1, none⟩ = some (.int .i64 dn) := by rw [hO2.cell (p := ⟨ip, 1, none⟩) HIA.out.lt id]; exact i1'
  have b2 := HC2.out.reg (k := dn) (by omega)
  have b3 := HC2.out.1.frozen dn
  clear hO2 HC
  have hO : Only (fun j => j = cp) wA (wA.setCell ⟨cp, dn, none⟩ (.int .u32 x)) := (HO2.out.mono (T := fun j => j = cp) (fun _ _ h => h.elim)).setCell (p := ⟨cp, dn, none⟩) (.inl rfl) _
  have HOX := Lib.hid hO
  clear hO
  cases ok
  all_goals
    go_wp2_with fail
    refine rmeet hJ rfl { c with R := c.R.set dn x } f ⟨by omega, by omega⟩ (HC2.out.setReg (by omega) HV.out) (HWS.out.only HOX.out (fun e => hws2 e.symm)) (rm_only HMA.out HOX.out a1 a2) (HOX.out.mono (fun _ _ h => .inl h)) (fun h => ?_) (fun h mp => ?_)
  · intro mp; exact stepS_bad hst (by rw [hpc]; exact HF.out) (HEX.out mp) rfl
  · cases h
  · cases h
  · refine sp_end hst hpc HF (HEX.out mp) rfl ?_ rfl rfl
    unfold Sp.memEnd Sp.setR Ch.sp
    dsimp only
    rw [hpc, List.set_comm _ _ (by omega)]
    rfl
end Go.Proofs.Ytpihjhfaeloapaa
namespace Go.Proofs.Ytpihjhfaeloapaa
open Go.RowKit On Th
set_option maxHeartbeats 16000000 in
set_option maxRecDepth 100000 in
theorem rarm_30 : rsw.1 30 := by
  delta rsw
  dsimp only
  intro c rm rg _ f hst _ _ _ hpc _ _ _ _ _ _ _ _ _ _ _ _ _ _ _ _ _ _ _ _ _ _ _ _ _ _ _ k imm cond _ _ _ _ wA _ HWS dn _ _ nn' _ _ mn _ _ HF HIR HRT _ _ _ _ _ _ rd hrd rn hrn rm' hrm _ _ _ _ _ _ HMA _ _ HCA _ _ _ _ hJ
  have hf1 := HCA.out.1.frozen dn
  have hk : k = 1 := by simpa using HIR.out.2
  subst hk
  obtain ⟨l1, l2, l3⟩ := low15 HRT.out (by simp)
  have HUrd : Hid (U rd) := by show U _; rw [← hrd]; exact HCA.out.2.reg (by omega)
  have HUrn : Hid (U rn) := by show U _; rw [← hrn]; exact HCA.out.2.reg (by omega)
  have HUrm : Hid (U rm') := by show U _; rw [← hrm]; exact HCA.out.2.reg (by omega)
  have HUk : Hid (U imm) := by show U _; have := HIR.out.1.low0 (by simp); have := HIR.out.1.mid (by simp); dsimp only at *; unfold U; omega
  have him : imm % 4294967296 = imm := by have := HUk.out; unfold U at this; omega
  obtain ⟨r13, hr13⟩ : ∃ x, c.R.getD 13 0 = x := ⟨_, rfl⟩
  have HU13 : Hid (U r13) := by show U _; rw [← hr13]; exact HCA.out.2.reg (by omega)
  have q13 := HCA.out.reg (k := 13) (by omega)
  rw [hr13] at q13
  have hdi : (dn : Int) < 16 := by omega
  have HFR := Lib.hid HMA.out.2.range
  obtain ⟨a1, a2⟩ := rapart HCA.out HMA.out
  obtain ⟨a3, a4⟩ := rapart HWS.out HMA.out
  obtain ⟨a, ha⟩ : ∃ a, (rn + rm') % 4294967296 = a := ⟨_, rfl⟩
  have hau : 0 ≤ a ∧ a < 4294967296 := by omega
  obtain ⟨ha0, ha1⟩ := hau
  have HAA : Hid (∀ mp : Value, (((c.sp mp ⟨30, dn, nn', mn, imm, cond⟩).c.R.getD nn' 0 + (c.sp mp ⟨30, dn, nn', mn, imm, cond⟩).c.R.getD mn 0) % 4294967296) = a) := fun mp => by unfold Ch.sp; dsimp only; rw [get15 _ (by omega), get15 _ (by omega), hrn, hrm]; exact ha
  have HC := Lib.hid (rsetword_c wA rm rg f a rd HMA.out)
  have HEX : Hid (∀ mp : Value, (c.sp mp ⟨30, dn, nn', mn, imm, cond⟩).exec f = ((c.sp mp ⟨30, dn, nn', mn, imm, cond⟩).memEnd a (setWordS f a rd).2, (setWordS f a rd).1)) := fun mp => by
    have e : (c.sp mp ⟨30, dn, nn', mn, imm, cond⟩).exec f = ((c.sp mp ⟨30, dn, nn', mn, imm, cond⟩).memEnd (((c.sp mp ⟨30, dn, nn', mn, imm, cond⟩).c.R.getD nn' 0 + (c.sp mp ⟨30, dn, nn', mn, imm, cond⟩).c.R.getD mn 0) % 4294967296) (setWordS f (((c.sp mp ⟨30, dn, nn', mn, imm, cond⟩).c.R.getD nn' 0 + (c.sp mp ⟨30, dn, nn', mn, imm, cond⟩).c.R.getD mn 0) % 4294967296) ((c.sp mp ⟨30, dn, nn', mn, imm, cond⟩).c.R.getD dn 0)).2, (setWordS f (((c.sp mp ⟨30, dn, nn', mn, imm, cond⟩).c.R.getD nn' 0 + (c.sp mp ⟨30, dn, nn', mn, imm, cond⟩).c.R.getD mn 0) % 4294967296) ((c.sp mp ⟨30, dn, nn', mn, imm, cond⟩).c.R.getD dn 0)).1) := by rfl
    rw [HAA.out mp] at e
    have hD : (c.sp mp ⟨30, dn, nn', mn, imm, cond⟩).c.R.getD dn 0 = rd := by unfold Ch.sp; dsimp only; rw [get15 _ (by omega), hrd]
    rw [hD] at e; exact e
  generalize setWordS f a rd = z at *
  obtain ⟨f2, ok⟩ := z
  dsimp only at *
  go_wp2_with fail
  refine (HC.out).mono ?_
  rintro e w2 ⟨rfl, hm2, ho2⟩
  have HM2 := Lib.hid hm2; have HO2 := Lib.hid ho2
  have HC2 := Lib.hid (HCA.out.only ho2 (fun e => a2 e.symm))
  have HW2 := Lib.hid (HWS.out.only ho2 (fun e => a4 e.symm))
  clear hm2 ho2 HC
  cases ok
  all_goals
    go_wp2_with fail
    refine rmeet hJ rfl c f2 ⟨by omega, by omega⟩ HC2.out HW2.out HM2.out (HO2.out.mono (fun _ _ h => .inr h)) (fun h => ?_) (fun h mp => ?_)
  · intro mp; exact stepS_bad hst (by rw [hpc]; exact HF.out) (HEX.out mp) rfl
  · cases h
  · cases h
  · refine sp_end hst hpc HF (HEX.out mp) rfl ?_ rfl rfl
    unfold Sp.memEnd Ch.sp
    dsimp only
    rw [hpc]
    rfl
set_option maxHeartbeats 16000000 in
set_option maxRecDepth 100000 in
theorem rarm_32 : rsw.1 32 := by
  delta rsw
  dsimp only
  intro c rm rg _ f hst _ _ _ hpc _ _ _ _ _ _ _ _ _ _ _ _ _ _ _ _ _ _ _ _ _ _ _ _ _ _ _ k imm cond _ _ _ _ wA _ HWS dn _ _ nn' _ _ mn _ _ HF HIR HRT _ _ _ _ _ _ rd hrd rn hrn rm' hrm _ _ _ _ _ _ HMA _ _ HCA _ _ _ _ hJ
  have hf1 := HCA.out.1.frozen dn
  have hk : k = 1 := by simpa using HIR.out.2
  subst hk
  obtain ⟨l1, l2, l3⟩ := low15 HRT.out (by simp)
  have HUrd : Hid (U rd) := by show U _; rw [← hrd]; exact HCA.out.2.reg (by omega)
  have HUrn : Hid (U rn) := by show U _; rw [← hrn]; exact HCA.out.2.reg (by omega)
  have HUrm : Hid (U rm') := by show U _; rw [← hrm]; exact HCA.out.2.reg (by omega)
  have HUk : Hid (U imm) := by show U _; have := HIR.out.1.low0 (by simp); have := HIR.out.1.mid (by simp); dsimp only at *; unfold U; omega
  have him : imm % 4294967296 = imm := by have := HUk.out; unfold U at this; omega
  obtain ⟨r13, hr13⟩ : ∃ x, c.R.getD 13 0 = x := ⟨_, rfl⟩
  have HU13 : Hid (U r13) := by show U _; rw [← hr13]; exact HCA.out.2.reg (by omega)
  have q13 := HCA.out.reg (k := 13) (by omega)
  rw [hr13] at q13
  have hdi : (dn : Int) < 16 := by omega
  have HFR := Lib.hid HMA.out.2.range
  obtain ⟨a1, a2⟩ := rapart HCA.out HMA.out
  obtain ⟨a3, a4⟩ := rapart HWS.out HMA.out
  obtain ⟨a, ha⟩ : ∃ a, (rn + imm) % 4294967296 = a := ⟨_, rfl⟩
  have hau : 0 ≤ a ∧ a < 4294967296 := by omega
  obtain ⟨ha0, ha1⟩ := hau
  have HAA : Hid (∀ mp : Value, (((c.sp mp ⟨32, dn, nn', mn, imm, cond⟩).c.R.getD nn' 0 + imm) % 4294967296) = a) := fun mp => by unfold Ch.sp; dsimp only; rw [get15 _ (by omega), hrn]; exact ha
  have HC := Lib.hid (rsetword_c wA rm rg f a rd HMA.out)
  have HEX : Hid (∀ mp : Value, (c.sp mp ⟨32, dn, nn', mn, imm, cond⟩).exec f = ((c.sp mp ⟨32, dn, nn', mn, imm, cond⟩).memEnd a (setWordS f a rd).2, (setWordS f a rd).1)) := fun mp => by
    have e : (c.sp mp ⟨32, dn, nn', mn, imm, cond⟩).exec f = ((c.sp mp ⟨32, dn, nn', mn, imm, cond⟩).memEnd (((c.sp mp ⟨32, dn, nn', mn, imm, cond⟩).c.R.getD nn' 0 + imm) % 4294967296) (setWordS f (((c.sp mp ⟨32, dn, nn', mn, imm, cond⟩).c.R.getD nn' 0 + imm) % 4294967296) ((c.sp mp ⟨32, dn, nn', mn, imm, cond⟩).c.R.getD dn 0)).2, (setWordS f (((c.sp mp ⟨32, dn, nn', mn, imm, cond⟩).c.R.getD nn' 0 + imm) % 4294967296) ((c.sp mp ⟨32, dn, nn', mn, imm, cond⟩).c.R.getD dn 0)).1) := by rfl
    rw [HAA.out mp] at e
    have hD : (c.sp mp ⟨32, dn, nn', mn, imm, cond⟩).c.R.getD dn 0 = rd := by unfold Ch.sp; dsimp only; rw [get15 _ (by omega), hrd]
    rw [hD] at e; exact e
  generalize setWordS f a rd = z at *
  obtain ⟨f2, ok⟩ := z
  dsimp only at *
  go_wp2_with fail
  refine (HC.out).mono ?_
  rintro e w2 ⟨rfl, hm2, ho2⟩
  have HM2 := Lib.hid hm2; have HO2 := Lib.hid ho2
  have HC2 := Lib.hid (HCA.out.only ho2 (fun e => a2 e.symm))
  have HW2 := Lib.hid (HWS.out.only ho2 (fun e => a4 e.symm))
  clear hm2 ho2 HC
  cases ok
  all_goals
    go_wp2_with fail
    refine rmeet hJ rfl c f2 ⟨by omega, by omega⟩ HC2.out HW2.out HM2.out (HO2.out.mono (fun _ _ h => .inr h)) (fun h => ?_) (fun h mp => ?_)
  · intro mp; exact stepS_bad hst (by rw [hpc]; exact HF.out) (HEX.out mp) rfl
  · cases h
  · cases h
  · refine sp_end hst hpc HF (HEX.out mp) rfl ?_ rfl rfl
    unfold Sp.memEnd Ch.sp
    dsimp only
    rw [hpc]
    rfl
set_option maxHeartbeats 16000000 in
set_option maxRecDepth 100000 in
theorem rarm_36 : rsw.1 36 := by
  delta rsw
  dsimp only
  intro c rm rg _ f hst _ _ _ hpc _ _ _ _ _ _ _ _ _ _ _ _ _ _ _ _ _ _ _ _ _ _ _ _ _ _ _ k imm cond _ _ _ _ wA _ HWS dn _ _ nn' _ _ mn _ _ HF HIR HRT _ _ _ _ _ _ rd hrd rn hrn rm' hrm _ _ _ _ _ _ HMA _ _ HCA _ _ _ _ hJ
  have hf1 := HCA.out.1.frozen dn
  have hk : k = 1 := by simpa using HIR.out.2
  subst hk
  obtain ⟨l1, l2, l3⟩ := low15 HRT.out (by simp)
  have HUrd : Hid (U rd) := by show U _; rw [← hrd]; exact HCA.out.2.reg (by omega)
  have HUrn : Hid (U rn) := by show U _; rw [← hrn]; exact HCA.out.2.reg (by omega)
  have HUrm : Hid (U rm') := by show U _; rw [← hrm]; exact HCA.out.2.reg (by omega)
  have HUk : Hid (U imm) := by show U _; have := HIR.out.1.low0 (by simp); have := HIR.out.1.mid (by simp); dsimp only at *; unfold U; omega
  have him : imm % 4294967296 = imm := by have := HUk.out; unfold U at this; omega
  obtain ⟨r13, hr13⟩ : ∃ x, c.R.getD 13 0 = x := ⟨_, rfl⟩
  have HU13 : Hid (U r13) := by show U _; rw [← hr13]; exact HCA.out.2.reg (by omega)
  have q13 := HCA.out.reg (k := 13) (by omega)
  rw [hr13] at q13
  have hdi : (dn : Int) < 16 := by omega
  have HFR := Lib.hid HMA.out.2.range
  obtain ⟨a1, a2⟩ := rapart HCA.out HMA.out
  obtain ⟨a3, a4⟩ := rapart HWS.out HMA.out
  obtain ⟨a, ha⟩ : ∃ a, (r13 + imm) % 4294967296 = a := ⟨_, rfl⟩
  have hau : 0 ≤ a ∧ a < 4294967296 := by omega
  obtain ⟨ha0, ha1⟩ := hau
  have HAA : Hid (∀ mp : Value, (((c.sp mp ⟨36, dn, nn', mn, imm, cond⟩).c.R.getD 13 0 + imm) % 4294967296) = a) := fun mp => by unfold Ch.sp; dsimp only; rw [get15 _ (by omega), hr13]; exact ha
  have HC := Lib.hid (rsetword_c wA rm rg f a rd HMA.out)
  have HEX : Hid (∀ mp : Value, (c.sp mp ⟨36, dn, nn', mn, imm, cond⟩).exec f = ((c.sp mp ⟨36, dn, nn', mn, imm, cond⟩).memEnd a (setWordS f a rd).2, (setWordS f a rd).1)) := fun mp => by
    have e : (c.sp mp ⟨36, dn, nn', mn, imm, cond⟩).exec f = ((c.sp mp ⟨36, dn, nn', mn, imm, cond⟩).memEnd (((c.sp mp ⟨36, dn, nn', mn, imm, cond⟩).c.R.getD 13 0 + imm) % 4294967296) (setWordS f (((c.sp mp ⟨36, dn, nn', mn, imm, cond⟩).c.R.getD 13 0 + imm) % 4294967296) ((c.sp mp ⟨36, dn, nn', mn, imm, cond⟩).c.R.getD dn 0)).2, (setWordS f (((c.sp mp ⟨36, dn, nn', mn, imm, cond⟩).c.R.getD 13 0 + imm) % 4294967296) ((c.sp mp ⟨36, dn, nn', mn, imm, cond⟩).c.R.getD dn 0)).1) := by rfl
    rw [HAA.out mp] at e
    have hD : (c.sp mp ⟨36, dn, nn', mn, imm, cond⟩).c.R.getD dn 0 = rd := by unfold Ch.sp; dsimp only; rw [get15 _ (by omega), hrd]
    rw [hD] at e; exact e
  generalize setWordS f a rd = z at *
  obtain ⟨f2, ok⟩ := z
  dsimp only at *
  go_wp2_with fail
  refine (HC.out).mono ?_
  rintro e w2 ⟨rfl, hm2, ho2⟩
  have HM2 := Lib.hid hm2; have HO2 := Lib.hid ho2
  have HC2 := Lib.hid (HCA.out.only ho2 (fun e => a2 e.symm))
  have HW2 := Lib.hid (HWS.out.only ho2 (fun e => a4 e.symm))
  clear hm2 ho2 HC
  cases ok
  all_goals
    go_wp2_with fail
    refine rmeet hJ rfl c f2 ⟨by omega, by omega⟩ HC2.out HW2.out HM2.out (HO2.out.mono (fun _ _ h => .inr h)) (fun h => ?_) (fun h mp => ?_)
  · intro mp; exact stepS_bad hst (by rw [hpc]; exact HF.out) (HEX.out mp) rfl
  · cases h
  · cases h
  · refine sp_end hst hpc HF (HEX.out mp) rfl ?_ rfl rfl
    unfold Sp.memEnd Ch.sp
    dsimp only
    rw [hpc]
    rfl
set_option maxHeartbeats 16000000 in
set_option maxRecDepth 100000 in
theorem rarm_34 : rsw.1 34 := by
  delta rsw
  dsimp only
  intro c rm rg _ f hst _ _ _ hpc _ _ _ _ _ _ _ _ _ _ _ _ _ _ _ _ _ _ _ _ _ _ _ _ _ _ _ k imm cond _ _ _ _ wA _ HWS dn _ _ nn' _ _ mn _ _ HF HIR HRT _ _ _ _ _ _ rd hrd rn hrn rm' hrm _ _ _ _ _ _ HMA _ _ HCA _ _ _ _ hJ
  have hf1 := HCA.out.1.frozen dn
  have hk : k = 1 := by simpa using HIR.out.2
  subst hk
  obtain ⟨l1, l2, l3⟩ := low15 HRT.out (by simp)
  have HUrd : Hid (U rd) := by show U _; rw [← hrd]; exact HCA.out.2.reg (by omega)
  have HUrn : Hid (U rn) := by show U _; rw [← hrn]; exact HCA.out.2.reg (by omega)
  have HUrm : Hid (U rm') := by show U _; rw [← hrm]; exact HCA.out.2.reg (by omega)
  have HUk : Hid (U imm) := by show U _; have := HIR.out.1.low0 (by simp); have := HIR.out.1.mid (by simp); dsimp only at *; unfold U; omega
  have him : imm % 4294967296 = imm := by have := HUk.out; unfold U at this; omega
  obtain ⟨r13, hr13⟩ : ∃ x, c.R.getD 13 0 = x := ⟨_, rfl⟩
  have HU13 : Hid (U r13) := by show U _; rw [← hr13]; exact HCA.out.2.reg (by omega)
  have q13 := HCA.out.reg (k := 13) (by omega)
  rw [hr13] at q13
  have hdi : (dn : Int) < 16 := by omega
  have HFR := Lib.hid HMA.out.2.range
  obtain ⟨a1, a2⟩ := rapart HCA.out HMA.out
  obtain ⟨a3, a4⟩ := rapart HWS.out HMA.out
  obtain ⟨a, ha⟩ : ∃ a, (rn + imm) % 4294967296 = a := ⟨_, rfl⟩
  have hau : 0 ≤ a ∧ a < 4294967296 := by omega
  obtain ⟨ha0, ha1⟩ := hau
  have HAA : Hid (∀ mp : Value, (((c.sp mp ⟨34, dn, nn', mn, imm, cond⟩).c.R.getD nn' 0 + imm) % 4294967296) = a) := fun mp => by unfold Ch.sp; dsimp only; rw [get15 _ (by omega), hrn]; exact ha
  have HC := Lib.hid (rsetbyte_c wA rm rg f a (rd % 256) HMA.out (by omega))
  have HEX : Hid (∀ mp : Value, (c.sp mp ⟨34, dn, nn', mn, imm, cond⟩).exec f = ((c.sp mp ⟨34, dn, nn', mn, imm, cond⟩).memEnd a (setByteS f a (rd % 256)).2, (setByteS f a (rd % 256)).1)) := fun mp => by
    have e : (c.sp mp ⟨34, dn, nn', mn, imm, cond⟩).exec f = ((c.sp mp ⟨34, dn, nn', mn, imm, cond⟩).memEnd (((c.sp mp ⟨34, dn, nn', mn, imm, cond⟩).c.R.getD nn' 0 + imm) % 4294967296) (setByteS f (((c.sp mp ⟨34, dn, nn', mn, imm, cond⟩).c.R.getD nn' 0 + imm) % 4294967296) (((c.sp mp ⟨34, dn, nn', mn, imm, cond⟩).c.R.getD dn 0) % 256)).2, (setByteS f (((c.sp mp ⟨34, dn, nn', mn, imm, cond⟩).c.R.getD nn' 0 + imm) % 4294967296) (((c.sp mp ⟨34, dn, nn', mn, imm, cond⟩).c.R.getD dn 0) % 256)).1) := by rfl
    rw [HAA.out mp] at e
    have hD : (c.sp mp ⟨34, dn, nn', mn, imm, cond⟩).c.R.getD dn 0 = rd := by unfold Ch.sp; dsimp only; rw [get15 _ (by omega), hrd]
    rw [hD] at e; exact e
  generalize setByteS f a (rd % 256) = z at *
  obtain ⟨f2, ok⟩ := z
  dsimp only at *
  go_wp2_with fail
  refine (HC.out).mono ?_
  rintro e w2 ⟨rfl, hm2, ho2⟩
  have HM2 := Lib.hid hm2; have HO2 := Lib.hid ho2
  have HC2 := Lib.hid (HCA.out.only ho2 (fun e => a2 e.symm))
  have HW2 := Lib.hid (HWS.out.only ho2 (fun e => a4 e.symm))
  clear hm2 ho2 HC
  cases ok
  all_goals
    go_wp2_with fail
    refine rmeet hJ rfl c f2 ⟨by omega, by omega⟩ HC2.out HW2.out HM2.out (HO2.out.mono (fun _ _ h => .inr h)) (fun h => ?_) (fun h mp => ?_)
  · intro mp; exact stepS_bad hst (by rw [hpc]; exact HF.out) (HEX.out mp) rfl
  · cases h
  · cases h
  · refine sp_end hst hpc HF (HEX.out mp) rfl ?_ rfl rfl
    unfold Sp.memEnd Ch.sp
    dsimp only
    rw [hpc]
    rfl
end Go.Proofs.Ytpihjhfaeloapaa
