/- ChipSums. -/
import Derived.Test.YtpihjhfaeloapaaCy
import Derived.Test.YtpihjhfaeloapaaView
import Derived.BigQuiet
import Derived.Deep.QuietTactic
namespace Go.Proofs.Ytpihjhfaeloapaa
open Go.RowKit On Th
def SA : List Ins := [⟨4, 4, 0, 2, 0, 0⟩, ⟨17, 1, 0, 3, 0, 0⟩, ⟨44, 0, 0, 0, 1, 0⟩]
def SAF : Nat → Int := loadB (fun _ => 0) 0 (flatE SA) (flatE SA).length
def SS : List Ins := [⟨5, 4, 0, 2, 0, 0⟩, ⟨18, 1, 0, 3, 0, 0⟩, ⟨44, 0, 0, 0, 1, 0⟩]
def SSF : Nat → Int := loadB (fun _ => 0) 0 (flatE SS) (flatE SS).length
def S0 (x0 x1 x2 x3 : Int) : Ch := ⟨[x0, x1, x2, x3, 0, 0, 0, 0, 0, 0, 0, 0, 0, 0, 0, 0], false, false, false, false, 0, 0, 0⟩
theorem sa_run (mp : Value) (x0 x1 x2 x3 : Int) : ((runUp mp (S0 x0 x1 x2 x3) SAF 9).1.st, (runUp mp (S0 x0 x1 x2 x3) SAF 9).1.R.getD 4 0, (runUp mp (S0 x0 x1 x2 x3) SAF 9).1.R.getD 1 0) = (1, sumX x0 x2 false, sumX x1 x3 ((x0 + x2 + cb false) / 4294967296 == 1)) := by kernel_rfl
theorem ss_run (mp : Value) (x0 x1 x2 x3 : Int) : ((runUp mp (S0 x0 x1 x2 x3) SSF 9).1.st, (runUp mp (S0 x0 x1 x2 x3) SSF 9).1.R.getD 4 0, (runUp mp (S0 x0 x1 x2 x3) SSF 9).1.R.getD 1 0) = (1, sumX x0 (4294967295 - x2) true, sumX x1 (4294967295 - x3) ((x0 + (4294967295 - x2) + cb true) / 4294967296 == 1)) := by kernel_rfl
theorem SA_right : ∀ i ∈ SA, rightS i = true := by
  intro i hi
  simp [SA] at hi
  rcases hi with rfl | rfl | rfl <;> decide
theorem SS_right : ∀ i ∈ SS, rightS i = true := by
  intro i hi
  simp [SS] at hi
  rcases hi with rfl | rfl | rfl <;> decide
theorem sa_law (a b : Int) :
    (sumX (a % 4294967296) (b % 4294967296) false + (sumX (a / 4294967296) (b / 4294967296) ((a % 4294967296 + b % 4294967296 + cb false) / 4294967296 == 1)) * 4294967296 % 18446744073709551616) % 18446744073709551616 = (a + b) % 18446744073709551616 := by
  unfold sumX cb
  simp only [Bool.false_eq_true, if_false, beq_iff_eq]
  split <;> omega
theorem ss_law (a b : Int) :
    (sumX (a % 4294967296) (4294967295 - b % 4294967296) true + (sumX (a / 4294967296) (4294967295 - b / 4294967296) ((a % 4294967296 + (4294967295 - b % 4294967296) + cb true) / 4294967296 == 1)) * 4294967296 % 18446744073709551616) % 18446744073709551616 = (a - b) % 18446744073709551616 := by
  unfold sumX cb
  simp only [if_true, beq_iff_eq]
  split <;> omega
set_option maxHeartbeats 8000000 in
set_option maxRecDepth 100000 in
theorem chipSums_no (w : World) (a b : Int) (ha0 : 0 ≤ a) (ha1 : a < 18446744073709551616) (hb0 : 0 ≤ b) (hb1 : b < 18446744073709551616) : Calls Try.prog 5 #[.int .u64 a, .int .u64 b, .bool false] w fun e w' => e = .returned (.bool true) ∧ Below w.heap.size w w' := by
  have HI : Hid (InsL (w.alloc (.cells #[.int .i64 4, .int .i64 4, .int .i64 0, .int .i64 2, .int .i64 0, .int .i64 0, .int .i64 17, .int .i64 1, .int .i64 0, .int .i64 3, .int .i64 0, .int .i64 0, .int .i64 44, .int .i64 0, .int .i64 0, .int .i64 0, .int .i64 1, .int .i64 0] 36)) (some ⟨w.heap.size, 0, none⟩) SA) := by
    intro k i hk
    have hb := Blk.new w 36 #[.int .i64 4, .int .i64 4, .int .i64 0, .int .i64 2, .int .i64 0, .int .i64 0, .int .i64 17, .int .i64 1, .int .i64 0, .int .i64 3, .int .i64 0, .int .i64 0, .int .i64 44, .int .i64 0, .int .i64 0, .int .i64 0, .int .i64 1, .int .i64 0]
    match k, hk with
    | 0, hk => simp [SA] at hk; subst hk; exact ⟨_, 0, rfl, hb.cell 0, hb.cell 1, hb.cell 2, hb.cell 3, hb.cell 4, hb.cell 5⟩
    | 1, hk => simp [SA] at hk; subst hk; exact ⟨_, 0, rfl, hb.cell 6, hb.cell 7, hb.cell 8, hb.cell 9, hb.cell 10, hb.cell 11⟩
    | 2, hk => simp [SA] at hk; subst hk; exact ⟨_, 0, rfl, hb.cell 12, hb.cell 13, hb.cell 14, hb.cell 15, hb.cell 16, hb.cell 17⟩
    | k + 3, hk => simp [SA] at hk
  have HLD := Lib.hid (load_c _ 0 _ 3 SA HI.out SA_right (by decide) (by unfold canLoad; decide))
  have HB0 : Hid (Below w.heap.size w (w.alloc (.cells #[.int .i64 4, .int .i64 4, .int .i64 0, .int .i64 2, .int .i64 0, .int .i64 0, .int .i64 17, .int .i64 1, .int .i64 0, .int .i64 3, .int .i64 0, .int .i64 0, .int .i64 44, .int .i64 0, .int .i64 0, .int .i64 0, .int .i64 1, .int .i64 0] 36))) := (Below.refl _ _).alloc (Nat.le_refl _) _
  have hKF : loadB (fun _ => 0) (0 : Int).toNat (flatE SA) (flatE SA).length = SAF := rfl
  have hK0 : SA.length = 3 := rfl
  rw [hKF, hK0] at HLD
  clear hKF hK0 HI
  go_enter Try.func5, Try.ntmps5
  go_wp2_with fail
  refine (HLD.out).mono ?_
  rintro e w1 ⟨m, g, rfl, hm, hm1, hg1, hb1⟩
  have HM1 := Lib.hid hm
  have HB1 := Lib.hid (HB0.out.trans (hb1.mono HB0.out.size))
  have HGS := Lib.hid (Nat.le_trans HB0.out.size hg1)
  clear hm hb1 HLD hm1 hg1
  go_wp2_with fail
  refine (chipNew_c w1).mono ?_
  rintro e w2 ⟨rfl, hc, hb2⟩
  have HC2 := Lib.hid hc
  have HM2 : Hid (MW w2 m g SAF) := HM1.out.only (S := fun _ => False) (Only.of_below hb2) id id
  have HB2 := Lib.hid (HB1.out.trans (hb2.mono HB1.out.size))
  have HPL := Lib.hid (show w.heap.size ≤ w1.heap.size from HB1.out.size)
  generalize w1.heap.size = pc at *
  clear hc hb2
  go_wp2_with fail
  refine (known_c w2).mono ?_
  rintro e w3 ⟨rfl, hb3⟩
  have HC3 : Hid (ChW w3 pc Ch0) := HC2.out.only (S := fun _ => False) (Only.of_below hb3) id
  have HM3 : Hid (MW w3 m g SAF) := HM2.out.only (S := fun _ => False) (Only.of_below hb3) id id
  have HB3 := Lib.hid (HB2.out.trans (hb3.mono HB2.out.size))
  clear hb3
  have z0 := HC3.out.frozen 0
  have z1 := HC3.out.frozen 1
  have z2 := HC3.out.frozen 2
  have z3 := HC3.out.frozen 3
  have HA0 := Lib.hid ha0; have HA1 := Lib.hid ha1; have HB0' := Lib.hid hb0; have HB1' := Lib.hid hb1
  have q0 := HC3.out.reg (k := 0) (by omega)
  have q1 := HC3.out.reg (k := 1) (by omega)
  have q2 := HC3.out.reg (k := 2) (by omega)
  have q3 := HC3.out.reg (k := 3) (by omega)
  clear HC2 HM2 HB2 HM1 HB1 HB0
  have U0 : U (a % 4294967296) := by unfold U; omega
  have U1 : U (a / 4294967296) := by unfold U; omega
  have U2 : U (b % 4294967296) := by unfold U; omega
  have U3 : U (b / 4294967296) := by unfold U; omega
  have HC4 := Lib.hid ((((HC3.out.setReg (k := 0) (by omega) U0).setReg (k := 1) (by omega) U1).setReg (k := 2) (by omega) U2).setReg (k := 3) (by omega) U3)
  have O4 := Lib.hid (((((Only.refl (fun j => j = pc) w3).setCell (p := ⟨pc, 0, none⟩) (.inl rfl) (.int .u32 (a % 4294967296))).setCell (p := ⟨pc, 1, none⟩) (.inl rfl) (.int .u32 (a / 4294967296))).setCell (p := ⟨pc, 2, none⟩) (.inl rfl) (.int .u32 (b % 4294967296))).setCell (p := ⟨pc, 3, none⟩) (.inl rfl) (.int .u32 (b / 4294967296)))
  have HAP := Lib.hid (HC3.out.apart HM3.out)
  clear U0 U1 U2 U3
  have hrun := sa_run (.pointer (some ⟨m, 0, none⟩)) (a % 4294967296) (a / 4294967296) (b % 4294967296) (b / 4294967296)
  have hlaw := sa_law a b
  have HC5 : Hid (ChW _ pc (S0 (a % 4294967296) (a / 4294967296) (b % 4294967296) (b / 4294967296))) := HC4.out
  clear HC4
  go_wp2_with fail
  generalize (((w3.setCell ⟨pc, 0, none⟩ (.int .u32 (a % 4294967296))).setCell ⟨pc, 1, none⟩ (.int .u32 (a / 4294967296))).setCell ⟨pc, 2, none⟩ (.int .u32 (b % 4294967296))).setCell ⟨pc, 3, none⟩ (.int .u32 (b / 4294967296)) = w4 at *
  have HM4 := Lib.hid (HM3.out.only O4.out (fun e => HAP.out.1 e.symm) (fun e => HAP.out.2 e.symm))
  have HB4 : Hid (Below w.heap.size w w4) := HB3.out.trans (O4.out.below HB3.out.size (fun j e => by rw [e]; exact HPL.out))
  refine (run_c w4 pc m g none none _ SAF [] 9 HC5.out HM4.out (fun tp e => by cases e) (fun a e => by cases e) (by decide)).mono ?_
  rintro e w5 ⟨rfl, hc5, _, _, _, o5⟩
  have HB5 : Hid (Below w.heap.size w w5) := HB4.out.trans (o5.below HB4.out.size (fun j h => by
    rcases h with h | h | ⟨tp', h1, _⟩ | ⟨h, _⟩
    · rw [h]; exact HPL.out
    · rw [h]; exact HGS.out
    · cases h1
    · exact absurd rfl h))
  have q4 := hc5.reg (k := 4) (by omega)
  have q1' := hc5.reg (k := 1) (by omega)
  have hu4 := hc5.2.reg (k := 4) (by omega)
  have hu1 := hc5.2.reg (k := 1) (by omega)
  injection hrun with hr1 hr2
  injection hr2 with hr2 hr3
  rw [hr1]
  rw [hr2] at q4 hu4
  rw [hr3] at q1' hu1
  have HL := Lib.hid hlaw
  clear hlaw hr1 hr2 hr3 hc5 o5 HC5 HM4 HM3 HC3 HAP O4 HB4 HB3 q0 q1 q2 q3 z0 z1 z2 z3
  generalize sumX (a % 4294967296) _ _ = y0 at *
  generalize sumX (a / 4294967296) _ _ = y1 at *
  go_wp2_with fail
  go_quiet (fail)
  go_wp2_with fail
  go_ret
  refine ⟨?_, HB5.out.trans (((Only.refl (fun _ => False) w5).drewN _).below HB5.out.size (fun _ h => h.elim))⟩
  have hval : (IntKind.u64.wrap (IntKind.u64.wrap y0 + IntKind.u64.wrap (IntKind.u64.wrap y1 * 4294967296)) == IntKind.u64.wrap (a + b)) = true := by
    have h := HL.out
    obtain ⟨u1, u2⟩ := hu4
    obtain ⟨u3, u4⟩ := hu1
    simp only [IntKind.wrap_u64, beq_iff_eq]
    omega
  show Ending.returned (.bool _) = _
  rw [hval]
set_option maxHeartbeats 8000000 in
set_option maxRecDepth 100000 in
theorem chipSums_yes (w : World) (a b : Int) (ha0 : 0 ≤ a) (ha1 : a < 18446744073709551616) (hb0 : 0 ≤ b) (hb1 : b < 18446744073709551616) : Calls Try.prog 5 #[.int .u64 a, .int .u64 b, .bool true] w fun e w' => e = .returned (.bool true) ∧ Below w.heap.size w w' := by
  have HI : Hid (InsL (w.alloc (.cells #[.int .i64 5, .int .i64 4, .int .i64 0, .int .i64 2, .int .i64 0, .int .i64 0, .int .i64 18, .int .i64 1, .int .i64 0, .int .i64 3, .int .i64 0, .int .i64 0, .int .i64 44, .int .i64 0, .int .i64 0, .int .i64 0, .int .i64 1, .int .i64 0] 36)) (some ⟨w.heap.size, 0, none⟩) SS) := by
    intro k i hk
    have hb := Blk.new w 36 #[.int .i64 5, .int .i64 4, .int .i64 0, .int .i64 2, .int .i64 0, .int .i64 0, .int .i64 18, .int .i64 1, .int .i64 0, .int .i64 3, .int .i64 0, .int .i64 0, .int .i64 44, .int .i64 0, .int .i64 0, .int .i64 0, .int .i64 1, .int .i64 0]
    match k, hk with
    | 0, hk => simp [SS] at hk; subst hk; exact ⟨_, 0, rfl, hb.cell 0, hb.cell 1, hb.cell 2, hb.cell 3, hb.cell 4, hb.cell 5⟩
    | 1, hk => simp [SS] at hk; subst hk; exact ⟨_, 0, rfl, hb.cell 6, hb.cell 7, hb.cell 8, hb.cell 9, hb.cell 10, hb.cell 11⟩
    | 2, hk => simp [SS] at hk; subst hk; exact ⟨_, 0, rfl, hb.cell 12, hb.cell 13, hb.cell 14, hb.cell 15, hb.cell 16, hb.cell 17⟩
    | k + 3, hk => simp [SS] at hk
  have HLD := Lib.hid (load_c _ 0 _ 3 SS HI.out SS_right (by decide) (by unfold canLoad; decide))
  have HB0 : Hid (Below w.heap.size w (w.alloc (.cells #[.int .i64 5, .int .i64 4, .int .i64 0, .int .i64 2, .int .i64 0, .int .i64 0, .int .i64 18, .int .i64 1, .int .i64 0, .int .i64 3, .int .i64 0, .int .i64 0, .int .i64 44, .int .i64 0, .int .i64 0, .int .i64 0, .int .i64 1, .int .i64 0] 36))) := (Below.refl _ _).alloc (Nat.le_refl _) _
  have hKF : loadB (fun _ => 0) (0 : Int).toNat (flatE SS) (flatE SS).length = SSF := rfl
  have hK0 : SS.length = 3 := rfl
  rw [hKF, hK0] at HLD
  clear hKF hK0 HI
  go_enter Try.func5, Try.ntmps5
  go_wp2_with fail
  refine (HLD.out).mono ?_
  rintro e w1 ⟨m, g, rfl, hm, hm1, hg1, hb1⟩
  have HM1 := Lib.hid hm
  have HB1 := Lib.hid (HB0.out.trans (hb1.mono HB0.out.size))
  have HGS := Lib.hid (Nat.le_trans HB0.out.size hg1)
  clear hm hb1 HLD hm1 hg1
  go_wp2_with fail
  refine (chipNew_c w1).mono ?_
  rintro e w2 ⟨rfl, hc, hb2⟩
  have HC2 := Lib.hid hc
  have HM2 : Hid (MW w2 m g SSF) := HM1.out.only (S := fun _ => False) (Only.of_below hb2) id id
  have HB2 := Lib.hid (HB1.out.trans (hb2.mono HB1.out.size))
  have HPL := Lib.hid (show w.heap.size ≤ w1.heap.size from HB1.out.size)
  generalize w1.heap.size = pc at *
  clear hc hb2
  go_wp2_with fail
  refine (known_c w2).mono ?_
  rintro e w3 ⟨rfl, hb3⟩
  have HC3 : Hid (ChW w3 pc Ch0) := HC2.out.only (S := fun _ => False) (Only.of_below hb3) id
  have HM3 : Hid (MW w3 m g SSF) := HM2.out.only (S := fun _ => False) (Only.of_below hb3) id id
  have HB3 := Lib.hid (HB2.out.trans (hb3.mono HB2.out.size))
  clear hb3
  have z0 := HC3.out.frozen 0
  have z1 := HC3.out.frozen 1
  have z2 := HC3.out.frozen 2
  have z3 := HC3.out.frozen 3
  have HA0 := Lib.hid ha0; have HA1 := Lib.hid ha1; have HB0' := Lib.hid hb0; have HB1' := Lib.hid hb1
  have q0 := HC3.out.reg (k := 0) (by omega)
  have q1 := HC3.out.reg (k := 1) (by omega)
  have q2 := HC3.out.reg (k := 2) (by omega)
  have q3 := HC3.out.reg (k := 3) (by omega)
  clear HC2 HM2 HB2 HM1 HB1 HB0
  have U0 : U (a % 4294967296) := by unfold U; omega
  have U1 : U (a / 4294967296) := by unfold U; omega
  have U2 : U (b % 4294967296) := by unfold U; omega
  have U3 : U (b / 4294967296) := by unfold U; omega
  have HC4 := Lib.hid ((((HC3.out.setReg (k := 0) (by omega) U0).setReg (k := 1) (by omega) U1).setReg (k := 2) (by omega) U2).setReg (k := 3) (by omega) U3)
  have O4 := Lib.hid (((((Only.refl (fun j => j = pc) w3).setCell (p := ⟨pc, 0, none⟩) (.inl rfl) (.int .u32 (a % 4294967296))).setCell (p := ⟨pc, 1, none⟩) (.inl rfl) (.int .u32 (a / 4294967296))).setCell (p := ⟨pc, 2, none⟩) (.inl rfl) (.int .u32 (b % 4294967296))).setCell (p := ⟨pc, 3, none⟩) (.inl rfl) (.int .u32 (b / 4294967296)))
  have HAP := Lib.hid (HC3.out.apart HM3.out)
  clear U0 U1 U2 U3
  have hrun := ss_run (.pointer (some ⟨m, 0, none⟩)) (a % 4294967296) (a / 4294967296) (b % 4294967296) (b / 4294967296)
  have hlaw := ss_law a b
  have HC5 : Hid (ChW _ pc (S0 (a % 4294967296) (a / 4294967296) (b % 4294967296) (b / 4294967296))) := HC4.out
  clear HC4
  go_wp2_with fail
  generalize (((w3.setCell ⟨pc, 0, none⟩ (.int .u32 (a % 4294967296))).setCell ⟨pc, 1, none⟩ (.int .u32 (a / 4294967296))).setCell ⟨pc, 2, none⟩ (.int .u32 (b % 4294967296))).setCell ⟨pc, 3, none⟩ (.int .u32 (b / 4294967296)) = w4 at *
  have HM4 := Lib.hid (HM3.out.only O4.out (fun e => HAP.out.1 e.symm) (fun e => HAP.out.2 e.symm))
  have HB4 : Hid (Below w.heap.size w w4) := HB3.out.trans (O4.out.below HB3.out.size (fun j e => by rw [e]; exact HPL.out))
  refine (run_c w4 pc m g none none _ SSF [] 9 HC5.out HM4.out (fun tp e => by cases e) (fun a e => by cases e) (by decide)).mono ?_
  rintro e w5 ⟨rfl, hc5, _, _, _, o5⟩
  have HB5 : Hid (Below w.heap.size w w5) := HB4.out.trans (o5.below HB4.out.size (fun j h => by
    rcases h with h | h | ⟨tp', h1, _⟩ | ⟨h, _⟩
    · rw [h]; exact HPL.out
    · rw [h]; exact HGS.out
    · cases h1
    · exact absurd rfl h))
  have q4 := hc5.reg (k := 4) (by omega)
  have q1' := hc5.reg (k := 1) (by omega)
  have hu4 := hc5.2.reg (k := 4) (by omega)
  have hu1 := hc5.2.reg (k := 1) (by omega)
  injection hrun with hr1 hr2
  injection hr2 with hr2 hr3
  rw [hr1]
  rw [hr2] at q4 hu4
  rw [hr3] at q1' hu1
  have HL := Lib.hid hlaw
  clear hlaw hr1 hr2 hr3 hc5 o5 HC5 HM4 HM3 HC3 HAP O4 HB4 HB3 q0 q1 q2 q3 z0 z1 z2 z3
  generalize sumX (a % 4294967296) _ _ = y0 at *
  generalize sumX (a / 4294967296) _ _ = y1 at *
  go_wp2_with fail
  go_quiet (fail)
  go_wp2_with fail
  go_ret
  refine ⟨?_, HB5.out.trans (((Only.refl (fun _ => False) w5).drewN _).below HB5.out.size (fun _ h => h.elim))⟩
  have hval : (IntKind.u64.wrap (IntKind.u64.wrap y0 + IntKind.u64.wrap (IntKind.u64.wrap y1 * 4294967296)) == IntKind.u64.wrap (a - b)) = true := by
    have h := HL.out
    obtain ⟨u1, u2⟩ := hu4
    obtain ⟨u3, u4⟩ := hu1
    simp only [IntKind.wrap_u64, beq_iff_eq]
    omega
  show Ending.returned (.bool _) = _
  rw [hval]
theorem chipSums_top (v0 v1 v2 : Value) (w : World) (u0 : Vw.Arg Try.prog w 62 v0) (u1 : Vw.Arg Try.prog w 62 v1) (u2 : Vw.Arg Try.prog w 4 v2) :
    Calls Try.prog 5 #[v0, v1, v2] w fun e w' => e = .returned (.bool true) ∧ Below w.heap.size w w' := by
  obtain ⟨a, rfl, ha⟩ := u0.int Try.underlying62
  obtain ⟨b, rfl, hb⟩ := u1.int Try.underlying62
  obtain ⟨sub, rfl⟩ := u2.bool Try.underlying4
  simp [Lit.wf, IntKind.min, IntKind.max, IntKind.signed, IntKind.bits] at ha hb
  cases sub
  · exact chipSums_no w a b (by omega) (by omega) (by omega) (by omega)
  · exact chipSums_yes w a b (by omega) (by omega) (by omega) (by omega)
end Go.Proofs.Ytpihjhfaeloapaa
