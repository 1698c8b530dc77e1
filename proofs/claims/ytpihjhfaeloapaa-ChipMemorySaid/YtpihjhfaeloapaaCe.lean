/- ChipMemory. PRINTED by gence.py. -/
import Derived.Test.YtpihjhfaeloapaaQt
import Derived.Test.YtpihjhfaeloapaaView
import Derived.BigQuiet
import Derived.Deep.QuietTactic
namespace Go.Proofs.Ytpihjhfaeloapaa
open Go.RowKit On Th
def MS (base n x4 x5 p cyc st num : Int) : Ch := ⟨[0, base, n, 8, x4, x5, 0, 0, 0, 0, 0, 0, 0, base - 32, 0, p], false, false, false, false, st, num, cyc⟩
def MK (s r : Ins) : List Ins := [s, r, ⟨33, 5, 1, 0, 9, 0⟩, ⟨44, 0, 0, 0, 1, 0⟩]
def MKF (s r : Ins) : Nat → Int := loadB (fun _ => 0) 0 (flatE (MK s r)) (flatE (MK s r)).length
theorem setB_lowL {F : Nat → Int} {a : Int} (n : Int) (h : 131072 ≤ a) : Low F (setB F a.toNat 4 n) := fun j hj => setB_low (.inl (by omega))
theorem ms_st0 (mp : Value) (base n : Int) (F : Nat → Int) (h0 : 131072 ≤ base) (h1 : base < 200000) (h2 : base % 4 = 0) (hf : fetchS F 0 = (⟨32, 2, 1, 0, 8, 0⟩, 1, 0)) : stepS mp (MS base n 0 0 0 0 0 0) F = (MS base n 0 0 2 2 0 0, setB F (base + 8).toNat 4 n, [⟨4, 0, base + 8, 2⟩]) := by
  have hx : ((MS base n 0 0 0 0 0 0).sp mp ⟨32, 2, 1, 0, 8, 0⟩).exec F = (((MS base n 0 0 0 0 0 0).sp mp ⟨32, 2, 1, 0, 8, 0⟩).memEnd ((base + 8) % 4294967296) (setWordS F ((base + 8) % 4294967296) n).2, (setWordS F ((base + 8) % 4294967296) n).1) := rfl
  rw [show (base + 8) % 4294967296 = base + 8 by omega, setWordS_yes (by omega) (by omega) (by omega)] at hx
  exact (stepS_ok rfl hf hx rfl).trans (by kernel_rfl)
theorem ms_st1 (mp : Value) (base n : Int) (F : Nat → Int) (h0 : 131072 ≤ base) (h1 : base < 200000) (h2 : base % 4 = 0) (hf : fetchS F 0 = (⟨30, 2, 1, 3, 0, 0⟩, 1, 0)) : stepS mp (MS base n 0 0 0 0 0 0) F = (MS base n 0 0 2 2 0 0, setB F (base + 8).toNat 4 n, [⟨4, 0, base + 8, 2⟩]) := by
  have hx : ((MS base n 0 0 0 0 0 0).sp mp ⟨30, 2, 1, 3, 0, 0⟩).exec F = (((MS base n 0 0 0 0 0 0).sp mp ⟨30, 2, 1, 3, 0, 0⟩).memEnd ((base + 8) % 4294967296) (setWordS F ((base + 8) % 4294967296) n).2, (setWordS F ((base + 8) % 4294967296) n).1) := rfl
  rw [show (base + 8) % 4294967296 = base + 8 by omega, setWordS_yes (by omega) (by omega) (by omega)] at hx
  exact (stepS_ok rfl hf hx rfl).trans (by kernel_rfl)
theorem ms_st2 (mp : Value) (base n : Int) (F : Nat → Int) (h0 : 131072 ≤ base) (h1 : base < 200000) (h2 : base % 4 = 0) (hf : fetchS F 0 = (⟨36, 2, 0, 0, 40, 0⟩, 1, 0)) : stepS mp (MS base n 0 0 0 0 0 0) F = (MS base n 0 0 2 2 0 0, setB F (base + 8).toNat 4 n, [⟨4, 0, base + 8, 2⟩]) := by
  have hx : ((MS base n 0 0 0 0 0 0).sp mp ⟨36, 2, 0, 0, 40, 0⟩).exec F = (((MS base n 0 0 0 0 0 0).sp mp ⟨36, 2, 0, 0, 40, 0⟩).memEnd ((base - 32 + 40) % 4294967296) (setWordS F ((base - 32 + 40) % 4294967296) n).2, (setWordS F ((base - 32 + 40) % 4294967296) n).1) := rfl
  rw [show (base - 32 + 40) % 4294967296 = base + 8 by omega, setWordS_yes (by omega) (by omega) (by omega)] at hx
  exact (stepS_ok rfl hf hx rfl).trans (by kernel_rfl)
theorem ms_rd0 (mp : Value) (base n : Int) (F : Nat → Int) (h0 : 131072 ≤ base) (h1 : base < 200000) (h2 : base % 4 = 0) (hw : wordS F (base + 8) = (n, true)) (hf : fetchS F 2 = (⟨31, 4, 1, 0, 8, 0⟩, 1, 0)) : stepS mp (MS base n 0 0 2 2 0 0) F = (MS base n n 0 4 4 0 0, F, [⟨4, 2, base + 8, 2⟩]) := by
  have hx : ((MS base n 0 0 2 2 0 0).sp mp ⟨31, 4, 1, 0, 8, 0⟩).exec F = ((((MS base n 0 0 2 2 0 0).sp mp ⟨31, 4, 1, 0, 8, 0⟩).setR 4 (wordS F ((base + 8) % 4294967296)).1).memEnd ((base + 8) % 4294967296) (wordS F ((base + 8) % 4294967296)).2, F) := rfl
  rw [show (base + 8) % 4294967296 = base + 8 by omega, hw] at hx
  exact (stepS_ok rfl hf hx rfl).trans (by kernel_rfl)
theorem ms_rd1 (mp : Value) (base n : Int) (F : Nat → Int) (h0 : 131072 ≤ base) (h1 : base < 200000) (h2 : base % 4 = 0) (hw : wordS F (base + 8) = (n, true)) (hf : fetchS F 2 = (⟨29, 4, 1, 3, 0, 0⟩, 1, 0)) : stepS mp (MS base n 0 0 2 2 0 0) F = (MS base n n 0 4 4 0 0, F, [⟨4, 2, base + 8, 2⟩]) := by
  have hx : ((MS base n 0 0 2 2 0 0).sp mp ⟨29, 4, 1, 3, 0, 0⟩).exec F = ((((MS base n 0 0 2 2 0 0).sp mp ⟨29, 4, 1, 3, 0, 0⟩).setR 4 (wordS F ((base + 8) % 4294967296)).1).memEnd ((base + 8) % 4294967296) (wordS F ((base + 8) % 4294967296)).2, F) := rfl
  rw [show (base + 8) % 4294967296 = base + 8 by omega, hw] at hx
  exact (stepS_ok rfl hf hx rfl).trans (by kernel_rfl)
theorem ms_rd2 (mp : Value) (base n : Int) (F : Nat → Int) (h0 : 131072 ≤ base) (h1 : base < 200000) (h2 : base % 4 = 0) (hw : wordS F (base + 8) = (n, true)) (hf : fetchS F 2 = (⟨35, 4, 0, 0, 40, 0⟩, 1, 0)) : stepS mp (MS base n 0 0 2 2 0 0) F = (MS base n n 0 4 4 0 0, F, [⟨4, 2, base + 8, 2⟩]) := by
  have hx : ((MS base n 0 0 2 2 0 0).sp mp ⟨35, 4, 0, 0, 40, 0⟩).exec F = ((((MS base n 0 0 2 2 0 0).sp mp ⟨35, 4, 0, 0, 40, 0⟩).setR 4 (wordS F ((base - 32 + 40) % 4294967296)).1).memEnd ((base - 32 + 40) % 4294967296) (wordS F ((base - 32 + 40) % 4294967296)).2, F) := rfl
  rw [show (base - 32 + 40) % 4294967296 = base + 8 by omega, hw] at hx
  exact (stepS_ok rfl hf hx rfl).trans (by kernel_rfl)
theorem ms_by (mp : Value) (base n b : Int) (F : Nat → Int) (h0 : 131072 ≤ base) (h1 : base < 200000) (hw : byteS F (base + 9) = (b, true)) (hf : fetchS F 4 = (⟨33, 5, 1, 0, 9, 0⟩, 1, 0)) : stepS mp (MS base n n 0 4 4 0 0) F = (MS base n n b 6 6 0 0, F, [⟨4, 4, base + 9, 2⟩]) := by
  have hx : ((MS base n n 0 4 4 0 0).sp mp ⟨33, 5, 1, 0, 9, 0⟩).exec F = ((((MS base n n 0 4 4 0 0).sp mp ⟨33, 5, 1, 0, 9, 0⟩).setR 5 (byteS F ((base + 9) % 4294967296)).1).memEnd ((base + 9) % 4294967296) (byteS F ((base + 9) % 4294967296)).2, F) := rfl
  rw [show (base + 9) % 4294967296 = base + 9 by omega, hw] at hx
  exact (stepS_ok rfl hf hx rfl).trans (by kernel_rfl)
theorem ms_sv (mp : Value) (base n b : Int) (F : Nat → Int) (hf : fetchS F 6 = (⟨44, 0, 0, 0, 1, 0⟩, 1, 0)) : stepS mp (MS base n n b 6 6 0 0) F = (MS base n n b 8 7 1 1, F, [⟨4, 6, -1, 1⟩]) := by
  have hx : ((MS base n n b 6 6 0 0).sp mp ⟨44, 0, 0, 0, 1, 0⟩).exec F = (⟨MS base n n b 8 6 1 1, mp, ⟨44, 0, 0, 0, 1, 0⟩, 6, -1, 1, false⟩, F) := rfl
  exact (stepS_ok rfl hf hx rfl).trans (by kernel_rfl)
/-- what the code does -/
def MRun (base n : Int) (s r : Ins) : Prop := ∀ mp, ∃ evs, runUp mp (MS base n 0 0 0 0 0 0) (MKF s r) 9 = (MS base n n (n / 256 % 256) 8 7 1 1, setB (MKF s r) (base + 8).toNat 4 n, ⟨4, 0, base + 8, 2⟩ :: evs)
theorem mk_f00 : fetchS (MKF ⟨32, 2, 1, 0, 8, 0⟩ ⟨31, 4, 1, 0, 8, 0⟩) 0 = (⟨32, 2, 1, 0, 8, 0⟩, 1, 0) ∧ fetchS (MKF ⟨32, 2, 1, 0, 8, 0⟩ ⟨31, 4, 1, 0, 8, 0⟩) 2 = (⟨31, 4, 1, 0, 8, 0⟩, 1, 0) ∧ fetchS (MKF ⟨32, 2, 1, 0, 8, 0⟩ ⟨31, 4, 1, 0, 8, 0⟩) 4 = (⟨33, 5, 1, 0, 9, 0⟩, 1, 0) ∧ fetchS (MKF ⟨32, 2, 1, 0, 8, 0⟩ ⟨31, 4, 1, 0, 8, 0⟩) 6 = (⟨44, 0, 0, 0, 1, 0⟩, 1, 0) := ⟨by kernel_rfl, by kernel_rfl, by kernel_rfl, by kernel_rfl⟩
theorem m_run00 (base n : Int) (hn : U n) (h0 : 131072 ≤ base) (h1 : base < 200000) (h2 : base % 4 = 0) : MRun base n ⟨32, 2, 1, 0, 8, 0⟩ ⟨31, 4, 1, 0, 8, 0⟩ := fun mp => by
  obtain ⟨f0, f2, f4, f6⟩ := mk_f00
  have hL := setB_lowL (F := MKF ⟨32, 2, 1, 0, 8, 0⟩ ⟨31, 4, 1, 0, 8, 0⟩) n (show 131072 ≤ base + 8 by omega)
  have hw : wordS (setB (MKF ⟨32, 2, 1, 0, 8, 0⟩ ⟨31, 4, 1, 0, 8, 0⟩) (base + 8).toNat 4 n) (base + 8) = (n, true) := by rw [wordS_yes (by omega) (by omega) (by omega), setB_get hn]
  have hb : byteS (setB (MKF ⟨32, 2, 1, 0, 8, 0⟩ ⟨31, 4, 1, 0, 8, 0⟩) (base + 8).toNat 4 n) (base + 9) = (n / 256 % 256, true) := by
    rw [byteS_yes (by omega) (by omega)]
    unfold setB
    rw [if_pos (by omega), show (base + 9).toNat - (base + 8).toNat = 1 by omega]
    unfold byteAt
    simp
  have r1 := runUp_succ mp _ _ 0 rfl (ms_st0 mp base n _ h0 h1 h2 f0)
  have r2 := runUp_succ mp _ _ 1 r1 (ms_rd0 mp base n _ h0 h1 h2 hw ((hL.fetch 2).trans f2))
  have r3 := runUp_succ mp _ _ 2 r2 (ms_by mp base n _ _ h0 h1 hb ((hL.fetch 4).trans f4))
  have r4 := runUp_succ mp _ _ 3 r3 (ms_sv mp base n _ _ ((hL.fetch 6).trans f6))
  exact ⟨_, runUp_stop mp _ _ 4 9 (by omega) r4 (by show (1 : Int) ≠ 0; decide)⟩
theorem mk_r00 : (∀ i ∈ MK ⟨32, 2, 1, 0, 8, 0⟩ ⟨31, 4, 1, 0, 8, 0⟩, rightS i = true) ∧ canLoad 0 (flatE (MK ⟨32, 2, 1, 0, 8, 0⟩ ⟨31, 4, 1, 0, 8, 0⟩)).length := by
  refine ⟨fun i hi => ?_, by unfold canLoad; decide⟩
  simp [MK] at hi
  rcases hi with rfl | rfl | rfl | rfl <;> decide
theorem mk_f01 : fetchS (MKF ⟨32, 2, 1, 0, 8, 0⟩ ⟨29, 4, 1, 3, 0, 0⟩) 0 = (⟨32, 2, 1, 0, 8, 0⟩, 1, 0) ∧ fetchS (MKF ⟨32, 2, 1, 0, 8, 0⟩ ⟨29, 4, 1, 3, 0, 0⟩) 2 = (⟨29, 4, 1, 3, 0, 0⟩, 1, 0) ∧ fetchS (MKF ⟨32, 2, 1, 0, 8, 0⟩ ⟨29, 4, 1, 3, 0, 0⟩) 4 = (⟨33, 5, 1, 0, 9, 0⟩, 1, 0) ∧ fetchS (MKF ⟨32, 2, 1, 0, 8, 0⟩ ⟨29, 4, 1, 3, 0, 0⟩) 6 = (⟨44, 0, 0, 0, 1, 0⟩, 1, 0) := ⟨by kernel_rfl, by kernel_rfl, by kernel_rfl, by kernel_rfl⟩
theorem m_run01 (base n : Int) (hn : U n) (h0 : 131072 ≤ base) (h1 : base < 200000) (h2 : base % 4 = 0) : MRun base n ⟨32, 2, 1, 0, 8, 0⟩ ⟨29, 4, 1, 3, 0, 0⟩ := fun mp => by
  obtain ⟨f0, f2, f4, f6⟩ := mk_f01
  have hL := setB_lowL (F := MKF ⟨32, 2, 1, 0, 8, 0⟩ ⟨29, 4, 1, 3, 0, 0⟩) n (show 131072 ≤ base + 8 by omega)
  have hw : wordS (setB (MKF ⟨32, 2, 1, 0, 8, 0⟩ ⟨29, 4, 1, 3, 0, 0⟩) (base + 8).toNat 4 n) (base + 8) = (n, true) := by rw [wordS_yes (by omega) (by omega) (by omega), setB_get hn]
  have hb : byteS (setB (MKF ⟨32, 2, 1, 0, 8, 0⟩ ⟨29, 4, 1, 3, 0, 0⟩) (base + 8).toNat 4 n) (base + 9) = (n / 256 % 256, true) := by
    rw [byteS_yes (by omega) (by omega)]
    unfold setB
    rw [if_pos (by omega), show (base + 9).toNat - (base + 8).toNat = 1 by omega]
    unfold byteAt
    simp
  have r1 := runUp_succ mp _ _ 0 rfl (ms_st0 mp base n _ h0 h1 h2 f0)
  have r2 := runUp_succ mp _ _ 1 r1 (ms_rd1 mp base n _ h0 h1 h2 hw ((hL.fetch 2).trans f2))
  have r3 := runUp_succ mp _ _ 2 r2 (ms_by mp base n _ _ h0 h1 hb ((hL.fetch 4).trans f4))
  have r4 := runUp_succ mp _ _ 3 r3 (ms_sv mp base n _ _ ((hL.fetch 6).trans f6))
  exact ⟨_, runUp_stop mp _ _ 4 9 (by omega) r4 (by show (1 : Int) ≠ 0; decide)⟩
theorem mk_r01 : (∀ i ∈ MK ⟨32, 2, 1, 0, 8, 0⟩ ⟨29, 4, 1, 3, 0, 0⟩, rightS i = true) ∧ canLoad 0 (flatE (MK ⟨32, 2, 1, 0, 8, 0⟩ ⟨29, 4, 1, 3, 0, 0⟩)).length := by
  refine ⟨fun i hi => ?_, by unfold canLoad; decide⟩
  simp [MK] at hi
  rcases hi with rfl | rfl | rfl | rfl <;> decide
theorem mk_f02 : fetchS (MKF ⟨32, 2, 1, 0, 8, 0⟩ ⟨35, 4, 0, 0, 40, 0⟩) 0 = (⟨32, 2, 1, 0, 8, 0⟩, 1, 0) ∧ fetchS (MKF ⟨32, 2, 1, 0, 8, 0⟩ ⟨35, 4, 0, 0, 40, 0⟩) 2 = (⟨35, 4, 0, 0, 40, 0⟩, 1, 0) ∧ fetchS (MKF ⟨32, 2, 1, 0, 8, 0⟩ ⟨35, 4, 0, 0, 40, 0⟩) 4 = (⟨33, 5, 1, 0, 9, 0⟩, 1, 0) ∧ fetchS (MKF ⟨32, 2, 1, 0, 8, 0⟩ ⟨35, 4, 0, 0, 40, 0⟩) 6 = (⟨44, 0, 0, 0, 1, 0⟩, 1, 0) := ⟨by kernel_rfl, by kernel_rfl, by kernel_rfl, by kernel_rfl⟩
theorem m_run02 (base n : Int) (hn : U n) (h0 : 131072 ≤ base) (h1 : base < 200000) (h2 : base % 4 = 0) : MRun base n ⟨32, 2, 1, 0, 8, 0⟩ ⟨35, 4, 0, 0, 40, 0⟩ := fun mp => by
  obtain ⟨f0, f2, f4, f6⟩ := mk_f02
  have hL := setB_lowL (F := MKF ⟨32, 2, 1, 0, 8, 0⟩ ⟨35, 4, 0, 0, 40, 0⟩) n (show 131072 ≤ base + 8 by omega)
  have hw : wordS (setB (MKF ⟨32, 2, 1, 0, 8, 0⟩ ⟨35, 4, 0, 0, 40, 0⟩) (base + 8).toNat 4 n) (base + 8) = (n, true) := by rw [wordS_yes (by omega) (by omega) (by omega), setB_get hn]
  have hb : byteS (setB (MKF ⟨32, 2, 1, 0, 8, 0⟩ ⟨35, 4, 0, 0, 40, 0⟩) (base + 8).toNat 4 n) (base + 9) = (n / 256 % 256, true) := by
    rw [byteS_yes (by omega) (by omega)]
    unfold setB
    rw [if_pos (by omega), show (base + 9).toNat - (base + 8).toNat = 1 by omega]
    unfold byteAt
    simp
  have r1 := runUp_succ mp _ _ 0 rfl (ms_st0 mp base n _ h0 h1 h2 f0)
  have r2 := runUp_succ mp _ _ 1 r1 (ms_rd2 mp base n _ h0 h1 h2 hw ((hL.fetch 2).trans f2))
  have r3 := runUp_succ mp _ _ 2 r2 (ms_by mp base n _ _ h0 h1 hb ((hL.fetch 4).trans f4))
  have r4 := runUp_succ mp _ _ 3 r3 (ms_sv mp base n _ _ ((hL.fetch 6).trans f6))
  exact ⟨_, runUp_stop mp _ _ 4 9 (by omega) r4 (by show (1 : Int) ≠ 0; decide)⟩
theorem mk_r02 : (∀ i ∈ MK ⟨32, 2, 1, 0, 8, 0⟩ ⟨35, 4, 0, 0, 40, 0⟩, rightS i = true) ∧ canLoad 0 (flatE (MK ⟨32, 2, 1, 0, 8, 0⟩ ⟨35, 4, 0, 0, 40, 0⟩)).length := by
  refine ⟨fun i hi => ?_, by unfold canLoad; decide⟩
  simp [MK] at hi
  rcases hi with rfl | rfl | rfl | rfl <;> decide
theorem mk_f10 : fetchS (MKF ⟨30, 2, 1, 3, 0, 0⟩ ⟨31, 4, 1, 0, 8, 0⟩) 0 = (⟨30, 2, 1, 3, 0, 0⟩, 1, 0) ∧ fetchS (MKF ⟨30, 2, 1, 3, 0, 0⟩ ⟨31, 4, 1, 0, 8, 0⟩) 2 = (⟨31, 4, 1, 0, 8, 0⟩, 1, 0) ∧ fetchS (MKF ⟨30, 2, 1, 3, 0, 0⟩ ⟨31, 4, 1, 0, 8, 0⟩) 4 = (⟨33, 5, 1, 0, 9, 0⟩, 1, 0) ∧ fetchS (MKF ⟨30, 2, 1, 3, 0, 0⟩ ⟨31, 4, 1, 0, 8, 0⟩) 6 = (⟨44, 0, 0, 0, 1, 0⟩, 1, 0) := ⟨by kernel_rfl, by kernel_rfl, by kernel_rfl, by kernel_rfl⟩
theorem m_run10 (base n : Int) (hn : U n) (h0 : 131072 ≤ base) (h1 : base < 200000) (h2 : base % 4 = 0) : MRun base n ⟨30, 2, 1, 3, 0, 0⟩ ⟨31, 4, 1, 0, 8, 0⟩ := fun mp => by
  obtain ⟨f0, f2, f4, f6⟩ := mk_f10
  have hL := setB_lowL (F := MKF ⟨30, 2, 1, 3, 0, 0⟩ ⟨31, 4, 1, 0, 8, 0⟩) n (show 131072 ≤ base + 8 by omega)
  have hw : wordS (setB (MKF ⟨30, 2, 1, 3, 0, 0⟩ ⟨31, 4, 1, 0, 8, 0⟩) (base + 8).toNat 4 n) (base + 8) = (n, true) := by rw [wordS_yes (by omega) (by omega) (by omega), setB_get hn]
  have hb : byteS (setB (MKF ⟨30, 2, 1, 3, 0, 0⟩ ⟨31, 4, 1, 0, 8, 0⟩) (base + 8).toNat 4 n) (base + 9) = (n / 256 % 256, true) := by
    rw [byteS_yes (by omega) (by omega)]
    unfold setB
    rw [if_pos (by omega), show (base + 9).toNat - (base + 8).toNat = 1 by omega]
    unfold byteAt
    simp
  have r1 := runUp_succ mp _ _ 0 rfl (ms_st1 mp base n _ h0 h1 h2 f0)
  have r2 := runUp_succ mp _ _ 1 r1 (ms_rd0 mp base n _ h0 h1 h2 hw ((hL.fetch 2).trans f2))
  have r3 := runUp_succ mp _ _ 2 r2 (ms_by mp base n _ _ h0 h1 hb ((hL.fetch 4).trans f4))
  have r4 := runUp_succ mp _ _ 3 r3 (ms_sv mp base n _ _ ((hL.fetch 6).trans f6))
  exact ⟨_, runUp_stop mp _ _ 4 9 (by omega) r4 (by show (1 : Int) ≠ 0; decide)⟩
theorem mk_r10 : (∀ i ∈ MK ⟨30, 2, 1, 3, 0, 0⟩ ⟨31, 4, 1, 0, 8, 0⟩, rightS i = true) ∧ canLoad 0 (flatE (MK ⟨30, 2, 1, 3, 0, 0⟩ ⟨31, 4, 1, 0, 8, 0⟩)).length := by
  refine ⟨fun i hi => ?_, by unfold canLoad; decide⟩
  simp [MK] at hi
  rcases hi with rfl | rfl | rfl | rfl <;> decide
theorem mk_f11 : fetchS (MKF ⟨30, 2, 1, 3, 0, 0⟩ ⟨29, 4, 1, 3, 0, 0⟩) 0 = (⟨30, 2, 1, 3, 0, 0⟩, 1, 0) ∧ fetchS (MKF ⟨30, 2, 1, 3, 0, 0⟩ ⟨29, 4, 1, 3, 0, 0⟩) 2 = (⟨29, 4, 1, 3, 0, 0⟩, 1, 0) ∧ fetchS (MKF ⟨30, 2, 1, 3, 0, 0⟩ ⟨29, 4, 1, 3, 0, 0⟩) 4 = (⟨33, 5, 1, 0, 9, 0⟩, 1, 0) ∧ fetchS (MKF ⟨30, 2, 1, 3, 0, 0⟩ ⟨29, 4, 1, 3, 0, 0⟩) 6 = (⟨44, 0, 0, 0, 1, 0⟩, 1, 0) := ⟨by kernel_rfl, by kernel_rfl, by kernel_rfl, by kernel_rfl⟩
theorem m_run11 (base n : Int) (hn : U n) (h0 : 131072 ≤ base) (h1 : base < 200000) (h2 : base % 4 = 0) : MRun base n ⟨30, 2, 1, 3, 0, 0⟩ ⟨29, 4, 1, 3, 0, 0⟩ := fun mp => by
  obtain ⟨f0, f2, f4, f6⟩ := mk_f11
  have hL := setB_lowL (F := MKF ⟨30, 2, 1, 3, 0, 0⟩ ⟨29, 4, 1, 3, 0, 0⟩) n (show 131072 ≤ base + 8 by omega)
  have hw : wordS (setB (MKF ⟨30, 2, 1, 3, 0, 0⟩ ⟨29, 4, 1, 3, 0, 0⟩) (base + 8).toNat 4 n) (base + 8) = (n, true) := by rw [wordS_yes (by omega) (by omega) (by omega), setB_get hn]
  have hb : byteS (setB (MKF ⟨30, 2, 1, 3, 0, 0⟩ ⟨29, 4, 1, 3, 0, 0⟩) (base + 8).toNat 4 n) (base + 9) = (n / 256 % 256, true) := by
    rw [byteS_yes (by omega) (by omega)]
    unfold setB
    rw [if_pos (by omega), show (base + 9).toNat - (base + 8).toNat = 1 by omega]
    unfold byteAt
    simp
  have r1 := runUp_succ mp _ _ 0 rfl (ms_st1 mp base n _ h0 h1 h2 f0)
  have r2 := runUp_succ mp _ _ 1 r1 (ms_rd1 mp base n _ h0 h1 h2 hw ((hL.fetch 2).trans f2))
  have r3 := runUp_succ mp _ _ 2 r2 (ms_by mp base n _ _ h0 h1 hb ((hL.fetch 4).trans f4))
  have r4 := runUp_succ mp _ _ 3 r3 (ms_sv mp base n _ _ ((hL.fetch 6).trans f6))
  exact ⟨_, runUp_stop mp _ _ 4 9 (by omega) r4 (by show (1 : Int) ≠ 0; decide)⟩
theorem mk_r11 : (∀ i ∈ MK ⟨30, 2, 1, 3, 0, 0⟩ ⟨29, 4, 1, 3, 0, 0⟩, rightS i = true) ∧ canLoad 0 (flatE (MK ⟨30, 2, 1, 3, 0, 0⟩ ⟨29, 4, 1, 3, 0, 0⟩)).length := by
  refine ⟨fun i hi => ?_, by unfold canLoad; decide⟩
  simp [MK] at hi
  rcases hi with rfl | rfl | rfl | rfl <;> decide
theorem mk_f12 : fetchS (MKF ⟨30, 2, 1, 3, 0, 0⟩ ⟨35, 4, 0, 0, 40, 0⟩) 0 = (⟨30, 2, 1, 3, 0, 0⟩, 1, 0) ∧ fetchS (MKF ⟨30, 2, 1, 3, 0, 0⟩ ⟨35, 4, 0, 0, 40, 0⟩) 2 = (⟨35, 4, 0, 0, 40, 0⟩, 1, 0) ∧ fetchS (MKF ⟨30, 2, 1, 3, 0, 0⟩ ⟨35, 4, 0, 0, 40, 0⟩) 4 = (⟨33, 5, 1, 0, 9, 0⟩, 1, 0) ∧ fetchS (MKF ⟨30, 2, 1, 3, 0, 0⟩ ⟨35, 4, 0, 0, 40, 0⟩) 6 = (⟨44, 0, 0, 0, 1, 0⟩, 1, 0) := ⟨by kernel_rfl, by kernel_rfl, by kernel_rfl, by kernel_rfl⟩
theorem m_run12 (base n : Int) (hn : U n) (h0 : 131072 ≤ base) (h1 : base < 200000) (h2 : base % 4 = 0) : MRun base n ⟨30, 2, 1, 3, 0, 0⟩ ⟨35, 4, 0, 0, 40, 0⟩ := fun mp => by
  obtain ⟨f0, f2, f4, f6⟩ := mk_f12
  have hL := setB_lowL (F := MKF ⟨30, 2, 1, 3, 0, 0⟩ ⟨35, 4, 0, 0, 40, 0⟩) n (show 131072 ≤ base + 8 by omega)
  have hw : wordS (setB (MKF ⟨30, 2, 1, 3, 0, 0⟩ ⟨35, 4, 0, 0, 40, 0⟩) (base + 8).toNat 4 n) (base + 8) = (n, true) := by rw [wordS_yes (by omega) (by omega) (by omega), setB_get hn]
  have hb : byteS (setB (MKF ⟨30, 2, 1, 3, 0, 0⟩ ⟨35, 4, 0, 0, 40, 0⟩) (base + 8).toNat 4 n) (base + 9) = (n / 256 % 256, true) := by
    rw [byteS_yes (by omega) (by omega)]
    unfold setB
    rw [if_pos (by omega), show (base + 9).toNat - (base + 8).toNat = 1 by omega]
    unfold byteAt
    simp
  have r1 := runUp_succ mp _ _ 0 rfl (ms_st1 mp base n _ h0 h1 h2 f0)
  have r2 := runUp_succ mp _ _ 1 r1 (ms_rd2 mp base n _ h0 h1 h2 hw ((hL.fetch 2).trans f2))
  have r3 := runUp_succ mp _ _ 2 r2 (ms_by mp base n _ _ h0 h1 hb ((hL.fetch 4).trans f4))
  have r4 := runUp_succ mp _ _ 3 r3 (ms_sv mp base n _ _ ((hL.fetch 6).trans f6))
  exact ⟨_, runUp_stop mp _ _ 4 9 (by omega) r4 (by show (1 : Int) ≠ 0; decide)⟩
theorem mk_r12 : (∀ i ∈ MK ⟨30, 2, 1, 3, 0, 0⟩ ⟨35, 4, 0, 0, 40, 0⟩, rightS i = true) ∧ canLoad 0 (flatE (MK ⟨30, 2, 1, 3, 0, 0⟩ ⟨35, 4, 0, 0, 40, 0⟩)).length := by
  refine ⟨fun i hi => ?_, by unfold canLoad; decide⟩
  simp [MK] at hi
  rcases hi with rfl | rfl | rfl | rfl <;> decide
theorem mk_f20 : fetchS (MKF ⟨36, 2, 0, 0, 40, 0⟩ ⟨31, 4, 1, 0, 8, 0⟩) 0 = (⟨36, 2, 0, 0, 40, 0⟩, 1, 0) ∧ fetchS (MKF ⟨36, 2, 0, 0, 40, 0⟩ ⟨31, 4, 1, 0, 8, 0⟩) 2 = (⟨31, 4, 1, 0, 8, 0⟩, 1, 0) ∧ fetchS (MKF ⟨36, 2, 0, 0, 40, 0⟩ ⟨31, 4, 1, 0, 8, 0⟩) 4 = (⟨33, 5, 1, 0, 9, 0⟩, 1, 0) ∧ fetchS (MKF ⟨36, 2, 0, 0, 40, 0⟩ ⟨31, 4, 1, 0, 8, 0⟩) 6 = (⟨44, 0, 0, 0, 1, 0⟩, 1, 0) := ⟨by kernel_rfl, by kernel_rfl, by kernel_rfl, by kernel_rfl⟩
theorem m_run20 (base n : Int) (hn : U n) (h0 : 131072 ≤ base) (h1 : base < 200000) (h2 : base % 4 = 0) : MRun base n ⟨36, 2, 0, 0, 40, 0⟩ ⟨31, 4, 1, 0, 8, 0⟩ := fun mp => by
  obtain ⟨f0, f2, f4, f6⟩ := mk_f20
  have hL := setB_lowL (F := MKF ⟨36, 2, 0, 0, 40, 0⟩ ⟨31, 4, 1, 0, 8, 0⟩) n (show 131072 ≤ base + 8 by omega)
  have hw : wordS (setB (MKF ⟨36, 2, 0, 0, 40, 0⟩ ⟨31, 4, 1, 0, 8, 0⟩) (base + 8).toNat 4 n) (base + 8) = (n, true) := by rw [wordS_yes (by omega) (by omega) (by omega), setB_get hn]
  have hb : byteS (setB (MKF ⟨36, 2, 0, 0, 40, 0⟩ ⟨31, 4, 1, 0, 8, 0⟩) (base + 8).toNat 4 n) (base + 9) = (n / 256 % 256, true) := by
    rw [byteS_yes (by omega) (by omega)]
    unfold setB
    rw [if_pos (by omega), show (base + 9).toNat - (base + 8).toNat = 1 by omega]
    unfold byteAt
    simp
  have r1 := runUp_succ mp _ _ 0 rfl (ms_st2 mp base n _ h0 h1 h2 f0)
  have r2 := runUp_succ mp _ _ 1 r1 (ms_rd0 mp base n _ h0 h1 h2 hw ((hL.fetch 2).trans f2))
  have r3 := runUp_succ mp _ _ 2 r2 (ms_by mp base n _ _ h0 h1 hb ((hL.fetch 4).trans f4))
  have r4 := runUp_succ mp _ _ 3 r3 (ms_sv mp base n _ _ ((hL.fetch 6).trans f6))
  exact ⟨_, runUp_stop mp _ _ 4 9 (by omega) r4 (by show (1 : Int) ≠ 0; decide)⟩
theorem mk_r20 : (∀ i ∈ MK ⟨36, 2, 0, 0, 40, 0⟩ ⟨31, 4, 1, 0, 8, 0⟩, rightS i = true) ∧ canLoad 0 (flatE (MK ⟨36, 2, 0, 0, 40, 0⟩ ⟨31, 4, 1, 0, 8, 0⟩)).length := by
  refine ⟨fun i hi => ?_, by unfold canLoad; decide⟩
  simp [MK] at hi
  rcases hi with rfl | rfl | rfl | rfl <;> decide
theorem mk_f21 : fetchS (MKF ⟨36, 2, 0, 0, 40, 0⟩ ⟨29, 4, 1, 3, 0, 0⟩) 0 = (⟨36, 2, 0, 0, 40, 0⟩, 1, 0) ∧ fetchS (MKF ⟨36, 2, 0, 0, 40, 0⟩ ⟨29, 4, 1, 3, 0, 0⟩) 2 = (⟨29, 4, 1, 3, 0, 0⟩, 1, 0) ∧ fetchS (MKF ⟨36, 2, 0, 0, 40, 0⟩ ⟨29, 4, 1, 3, 0, 0⟩) 4 = (⟨33, 5, 1, 0, 9, 0⟩, 1, 0) ∧ fetchS (MKF ⟨36, 2, 0, 0, 40, 0⟩ ⟨29, 4, 1, 3, 0, 0⟩) 6 = (⟨44, 0, 0, 0, 1, 0⟩, 1, 0) := ⟨by kernel_rfl, by kernel_rfl, by kernel_rfl, by kernel_rfl⟩
theorem m_run21 (base n : Int) (hn : U n) (h0 : 131072 ≤ base) (h1 : base < 200000) (h2 : base % 4 = 0) : MRun base n ⟨36, 2, 0, 0, 40, 0⟩ ⟨29, 4, 1, 3, 0, 0⟩ := fun mp => by
  obtain ⟨f0, f2, f4, f6⟩ := mk_f21
  have hL := setB_lowL (F := MKF ⟨36, 2, 0, 0, 40, 0⟩ ⟨29, 4, 1, 3, 0, 0⟩) n (show 131072 ≤ base + 8 by omega)
  have hw : wordS (setB (MKF ⟨36, 2, 0, 0, 40, 0⟩ ⟨29, 4, 1, 3, 0, 0⟩) (base + 8).toNat 4 n) (base + 8) = (n, true) := by rw [wordS_yes (by omega) (by omega) (by omega), setB_get hn]
  have hb : byteS (setB (MKF ⟨36, 2, 0, 0, 40, 0⟩ ⟨29, 4, 1, 3, 0, 0⟩) (base + 8).toNat 4 n) (base + 9) = (n / 256 % 256, true) := by
    rw [byteS_yes (by omega) (by omega)]
    unfold setB
    rw [if_pos (by omega), show (base + 9).toNat - (base + 8).toNat = 1 by omega]
    unfold byteAt
    simp
  have r1 := runUp_succ mp _ _ 0 rfl (ms_st2 mp base n _ h0 h1 h2 f0)
  have r2 := runUp_succ mp _ _ 1 r1 (ms_rd1 mp base n _ h0 h1 h2 hw ((hL.fetch 2).trans f2))
  have r3 := runUp_succ mp _ _ 2 r2 (ms_by mp base n _ _ h0 h1 hb ((hL.fetch 4).trans f4))
  have r4 := runUp_succ mp _ _ 3 r3 (ms_sv mp base n _ _ ((hL.fetch 6).trans f6))
  exact ⟨_, runUp_stop mp _ _ 4 9 (by omega) r4 (by show (1 : Int) ≠ 0; decide)⟩
theorem mk_r21 : (∀ i ∈ MK ⟨36, 2, 0, 0, 40, 0⟩ ⟨29, 4, 1, 3, 0, 0⟩, rightS i = true) ∧ canLoad 0 (flatE (MK ⟨36, 2, 0, 0, 40, 0⟩ ⟨29, 4, 1, 3, 0, 0⟩)).length := by
  refine ⟨fun i hi => ?_, by unfold canLoad; decide⟩
  simp [MK] at hi
  rcases hi with rfl | rfl | rfl | rfl <;> decide
theorem mk_f22 : fetchS (MKF ⟨36, 2, 0, 0, 40, 0⟩ ⟨35, 4, 0, 0, 40, 0⟩) 0 = (⟨36, 2, 0, 0, 40, 0⟩, 1, 0) ∧ fetchS (MKF ⟨36, 2, 0, 0, 40, 0⟩ ⟨35, 4, 0, 0, 40, 0⟩) 2 = (⟨35, 4, 0, 0, 40, 0⟩, 1, 0) ∧ fetchS (MKF ⟨36, 2, 0, 0, 40, 0⟩ ⟨35, 4, 0, 0, 40, 0⟩) 4 = (⟨33, 5, 1, 0, 9, 0⟩, 1, 0) ∧ fetchS (MKF ⟨36, 2, 0, 0, 40, 0⟩ ⟨35, 4, 0, 0, 40, 0⟩) 6 = (⟨44, 0, 0, 0, 1, 0⟩, 1, 0) := ⟨by kernel_rfl, by kernel_rfl, by kernel_rfl, by kernel_rfl⟩
theorem m_run22 (base n : Int) (hn : U n) (h0 : 131072 ≤ base) (h1 : base < 200000) (h2 : base % 4 = 0) : MRun base n ⟨36, 2, 0, 0, 40, 0⟩ ⟨35, 4, 0, 0, 40, 0⟩ := fun mp => by
  obtain ⟨f0, f2, f4, f6⟩ := mk_f22
  have hL := setB_lowL (F := MKF ⟨36, 2, 0, 0, 40, 0⟩ ⟨35, 4, 0, 0, 40, 0⟩) n (show 131072 ≤ base + 8 by omega)
  have hw : wordS (setB (MKF ⟨36, 2, 0, 0, 40, 0⟩ ⟨35, 4, 0, 0, 40, 0⟩) (base + 8).toNat 4 n) (base + 8) = (n, true) := by rw [wordS_yes (by omega) (by omega) (by omega), setB_get hn]
  have hb : byteS (setB (MKF ⟨36, 2, 0, 0, 40, 0⟩ ⟨35, 4, 0, 0, 40, 0⟩) (base + 8).toNat 4 n) (base + 9) = (n / 256 % 256, true) := by
    rw [byteS_yes (by omega) (by omega)]
    unfold setB
    rw [if_pos (by omega), show (base + 9).toNat - (base + 8).toNat = 1 by omega]
    unfold byteAt
    simp
  have r1 := runUp_succ mp _ _ 0 rfl (ms_st2 mp base n _ h0 h1 h2 f0)
  have r2 := runUp_succ mp _ _ 1 r1 (ms_rd2 mp base n _ h0 h1 h2 hw ((hL.fetch 2).trans f2))
  have r3 := runUp_succ mp _ _ 2 r2 (ms_by mp base n _ _ h0 h1 hb ((hL.fetch 4).trans f4))
  have r4 := runUp_succ mp _ _ 3 r3 (ms_sv mp base n _ _ ((hL.fetch 6).trans f6))
  exact ⟨_, runUp_stop mp _ _ 4 9 (by omega) r4 (by show (1 : Int) ≠ 0; decide)⟩
theorem mk_r22 : (∀ i ∈ MK ⟨36, 2, 0, 0, 40, 0⟩ ⟨35, 4, 0, 0, 40, 0⟩, rightS i = true) ∧ canLoad 0 (flatE (MK ⟨36, 2, 0, 0, 40, 0⟩ ⟨35, 4, 0, 0, 40, 0⟩)).length := by
  refine ⟨fun i hi => ?_, by unfold canLoad; decide⟩
  simp [MK] at hi
  rcases hi with rfl | rfl | rfl | rfl <;> decide
set_option maxHeartbeats 8000000 in
set_option maxRecDepth 100000 in
theorem chipMemory_c (w : World) (n h i g0 j a q so sn sm si ro rn rm ri : Int) (hn : U n) (hq0 : 0 ≤ q) (hq1 : q < 1000)
    (hp : ∀ w, Calls Try.prog 27 #[.int .i64 h, .int .i64 3] w fun e w' => e = .returned (.int .i64 i) ∧ w = w')
    (hp2 : ∀ w, Calls Try.prog 27 #[.int .i64 g0, .int .i64 3] w fun e w' => e = .returned (.int .i64 j) ∧ w = w')
    (hp3 : ∀ w, Calls Try.prog 27 #[.int .i64 a, .int .i64 1000] w fun e w' => e = .returned (.int .i64 q) ∧ w = w')
    (hix : ∀ wq, (Instr.index 70 (.agg #[.int .i64 32, .int .i64 2, .int .i64 1, .int .i64 0, .int .i64 8, .int .i64 0, .int .i64 30, .int .i64 2, .int .i64 1, .int .i64 3, .int .i64 0, .int .i64 0, .int .i64 36, .int .i64 2, .int .i64 0, .int .i64 0, .int .i64 40, .int .i64 0]) (.int .i64 i)).run Try.prog wq = .ok (.agg #[.int .i64 so, .int .i64 2, .int .i64 sn, .int .i64 sm, .int .i64 si, .int .i64 0]) wq)
    (hix2 : ∀ wq, (Instr.index 70 (.agg #[.int .i64 31, .int .i64 4, .int .i64 1, .int .i64 0, .int .i64 8, .int .i64 0, .int .i64 29, .int .i64 4, .int .i64 1, .int .i64 3, .int .i64 0, .int .i64 0, .int .i64 35, .int .i64 4, .int .i64 0, .int .i64 0, .int .i64 40, .int .i64 0]) (.int .i64 j)).run Try.prog wq = .ok (.agg #[.int .i64 ro, .int .i64 4, .int .i64 rn, .int .i64 rm, .int .i64 ri, .int .i64 0]) wq)
    (hright : (∀ i ∈ MK ⟨so, 2, sn, sm, si, 0⟩ ⟨ro, 4, rn, rm, ri, 0⟩, rightS i = true) ∧ canLoad 0 (flatE (MK ⟨so, 2, sn, sm, si, 0⟩ ⟨ro, 4, rn, rm, ri, 0⟩)).length) (hrun : MRun (131072 + 4 * q) n ⟨so, 2, sn, sm, si, 0⟩ ⟨ro, 4, rn, rm, ri, 0⟩) :
    Calls Try.prog 10 #[.int .u32 n, .int .i64 h, .int .i64 g0, .int .i64 a] w fun e w' => e = .returned (.bool true) ∧ Below w.heap.size w w' := by
  obtain ⟨wb, hwb⟩ : ∃ wb, wb = (w.alloc (.cells #[.int .i64 so, .int .i64 2, .int .i64 sn, .int .i64 sm, .int .i64 si, .int .i64 0] 36)).alloc (.cells #[.int .i64 ro, .int .i64 4, .int .i64 rn, .int .i64 rm, .int .i64 ri, .int .i64 0] 36) := ⟨_, rfl⟩
  have hbb : Below w.heap.size w wb := by rw [hwb]; exact ((Below.refl _ _).alloc (Nat.le_refl _) _).alloc (by simp) _
  have HI : Hid (InsL (wb.alloc (.cells #[.int .i64 so, .int .i64 2, .int .i64 sn, .int .i64 sm, .int .i64 si, .int .i64 0, .int .i64 ro, .int .i64 4, .int .i64 rn, .int .i64 rm, .int .i64 ri, .int .i64 0, .int .i64 33, .int .i64 5, .int .i64 1, .int .i64 0, .int .i64 9, .int .i64 0, .int .i64 44, .int .i64 0, .int .i64 0, .int .i64 0, .int .i64 1, .int .i64 0] 36)) (some ⟨wb.heap.size, 0, none⟩) (MK ⟨so, 2, sn, sm, si, 0⟩ ⟨ro, 4, rn, rm, ri, 0⟩)) := by
    intro k i hk
    have hb := Blk.new wb 36 #[.int .i64 so, .int .i64 2, .int .i64 sn, .int .i64 sm, .int .i64 si, .int .i64 0, .int .i64 ro, .int .i64 4, .int .i64 rn, .int .i64 rm, .int .i64 ri, .int .i64 0, .int .i64 33, .int .i64 5, .int .i64 1, .int .i64 0, .int .i64 9, .int .i64 0, .int .i64 44, .int .i64 0, .int .i64 0, .int .i64 0, .int .i64 1, .int .i64 0]
    match k, hk with
    | 0, hk => simp [MK] at hk; subst hk; exact ⟨_, 0, rfl, hb.cell 0, hb.cell 1, hb.cell 2, hb.cell 3, hb.cell 4, hb.cell 5⟩
    | 1, hk => simp [MK] at hk; subst hk; exact ⟨_, 0, rfl, hb.cell 6, hb.cell 7, hb.cell 8, hb.cell 9, hb.cell 10, hb.cell 11⟩
    | 2, hk => simp [MK] at hk; subst hk; exact ⟨_, 0, rfl, hb.cell 12, hb.cell 13, hb.cell 14, hb.cell 15, hb.cell 16, hb.cell 17⟩
    | 3, hk => simp [MK] at hk; subst hk; exact ⟨_, 0, rfl, hb.cell 18, hb.cell 19, hb.cell 20, hb.cell 21, hb.cell 22, hb.cell 23⟩
    | k + 4, hk => simp [MK] at hk
  have HLD := Lib.hid (load_c _ 0 _ 4 (MK ⟨so, 2, sn, sm, si, 0⟩ ⟨ro, 4, rn, rm, ri, 0⟩) HI.out hright.1 (by simp [MK]) hright.2)
  have HB0 : Hid (Below wb.heap.size wb (wb.alloc (.cells #[.int .i64 so, .int .i64 2, .int .i64 sn, .int .i64 sm, .int .i64 si, .int .i64 0, .int .i64 ro, .int .i64 4, .int .i64 rn, .int .i64 rm, .int .i64 ri, .int .i64 0, .int .i64 33, .int .i64 5, .int .i64 1, .int .i64 0, .int .i64 9, .int .i64 0, .int .i64 44, .int .i64 0, .int .i64 0, .int .i64 0, .int .i64 1, .int .i64 0] 36))) := (Below.refl _ _).alloc (Nat.le_refl _) _
  have hKF : loadB (fun _ => 0) (0 : Int).toNat (flatE (MK ⟨so, 2, sn, sm, si, 0⟩ ⟨ro, 4, rn, rm, ri, 0⟩)) (flatE (MK ⟨so, 2, sn, sm, si, 0⟩ ⟨ro, 4, rn, rm, ri, 0⟩)).length = (MKF ⟨so, 2, sn, sm, si, 0⟩ ⟨ro, 4, rn, rm, ri, 0⟩) := rfl
  have hK0 : (MK ⟨so, 2, sn, sm, si, 0⟩ ⟨ro, 4, rn, rm, ri, 0⟩).length = 4 := rfl
  rw [hKF, hK0] at HLD
  clear hKF hK0 HI
  have HPK := Lib.hid hp; have HPK2 := Lib.hid hp2; have HPK3 := Lib.hid hp3
  have HN := Lib.hid hn; have HRUN := Lib.hid hrun
  have HBS : Hid (0 ≤ q ∧ q < 1000) := ⟨hq0, hq1⟩
  have e1 : IntKind.i64.wrap (4 * q) = 4 * q := IntWalk.i64_in _ (by omega)
  have e2 : IntKind.u32.wrap (IntKind.i64.wrap (131072 + 4 * q)) = 131072 + 4 * q := by rw [IntWalk.i64_in _ (by omega), IntKind.wrap_u32']; omega
  have e3 : IntKind.u32.wrap (131072 + 4 * q - 32) = 131072 + 4 * q - 32 := by rw [IntKind.wrap_u32']; omega
  have e4 : IntKind.u32.wrap (IntKind.u32.wrap (131072 + 4 * q + 8) - 40) = 131072 + 4 * q + 8 - 40 := by rw [IntKind.wrap_u32', IntKind.wrap_u32']; omega
  clear hp hp2 hp3 hn hrun hright
  go_enter Try.func10, Try.ntmps10
  go_wp2_with fail
  refine (HPK.out _).mono ?_
  rintro e w' ⟨rfl, rfl⟩
  clear HPK
  go_wp2_with fail
  refine (HPK2.out _).mono ?_
  rintro e w' ⟨rfl, rfl⟩
  clear HPK2
  go_upto_region 3 with (fail)
  rw [← hwb]
  have x9 : ∀ j v, (#[.int .i64 so, .int .i64 2, .int .i64 sn, .int .i64 sm, .int .i64 si, .int .i64 0] : Array Value)[j]? = some v → wb.cell? ⟨w.heap.size, j, none⟩ = some v := fun j v hv => by
    rw [hwb, ((Blk.new w 36 #[.int .i64 so, .int .i64 2, .int .i64 sn, .int .i64 sm, .int .i64 si, .int .i64 0]).alloc _).cell]; exact hv
  have x10 : ∀ j v, (#[.int .i64 ro, .int .i64 4, .int .i64 rn, .int .i64 rm, .int .i64 ri, .int .i64 0] : Array Value)[j]? = some v → wb.cell? ⟨w.heap.size + 1, j, none⟩ = some v := fun j v hv => by
    have h := (Blk.new (w.alloc (.cells #[.int .i64 so, .int .i64 2, .int .i64 sn, .int .i64 sm, .int .i64 si, .int .i64 0] 36)) 36 #[.int .i64 ro, .int .i64 4, .int .i64 rn, .int .i64 rm, .int .i64 ri, .int .i64 0]).cell j
    rw [World.size_alloc] at h
    rw [hwb, h]; exact hv
  have c0 := x9 0 _ rfl
  have c1 := x9 1 _ rfl
  have c2 := x9 2 _ rfl
  have c3 := x9 3 _ rfl
  have c4 := x9 4 _ rfl
  have c5 := x9 5 _ rfl
  have d0 := x10 0 _ rfl
  have d1 := x10 1 _ rfl
  have d2 := x10 2 _ rfl
  have d3 := x10 3 _ rfl
  have d4 := x10 4 _ rfl
  have d5 := x10 5 _ rfl
  clear x9 x10 hwb hix hix2
  go_wp2_with fail
  refine (HLD.out).mono ?_
  rintro e w1 ⟨m, g, rfl, hm, hm1, hg1, hb1⟩
  have HM1 := Lib.hid hm
  have HB1 := Lib.hid (HB0.out.trans (hb1.mono HB0.out.size))
  have HGS := Lib.hid (Nat.le_trans HB0.out.size hg1)
  clear hm hb1 HLD hm1 hg1 c0 c1 c2 c3 c4 c5 d0 d1 d2 d3 d4 d5
  go_wp2_with fail
  refine (chipNew_c w1).mono ?_
  rintro e w2 ⟨rfl, hc, hb2⟩
  have HC2 := Lib.hid hc
  have HM2 : Hid (MW w2 m g (MKF ⟨so, 2, sn, sm, si, 0⟩ ⟨ro, 4, rn, rm, ri, 0⟩)) := HM1.out.only (S := fun _ => False) (Only.of_below hb2) id id
  have HB2 := Lib.hid (HB1.out.trans (hb2.mono HB1.out.size))
  have HPL := Lib.hid (show wb.heap.size ≤ w1.heap.size from HB1.out.size)
  generalize w1.heap.size = pc at *
  clear hc hb2
  go_wp2_with fail
  refine (trNew_c w2).mono ?_
  rintro e w3 ⟨rfl, rfl⟩
  obtain ⟨w3, hw3⟩ : ∃ w3, w3 = w2.alloc (.cells #[.slice none 0 0] 76) := ⟨_, rfl⟩
  obtain ⟨tp, htp⟩ : ∃ tp, tp = w2.heap.size := ⟨_, rfl⟩
  have hT : Tr w3 tp none [] := by rw [hw3, htp]; exact Tr.new w2
  have hO3 : Below w2.heap.size w2 w3 := by rw [hw3]; exact (Below.refl _ _).alloc (Nat.le_refl _) _
  have HT3 := Lib.hid hT
  have HC3 : Hid (ChW w3 pc Ch0) := HC2.out.only (S := fun _ => False) (Only.of_below hO3) id
  have HM3 : Hid (MW w3 m g (MKF ⟨so, 2, sn, sm, si, 0⟩ ⟨ro, 4, rn, rm, ri, 0⟩)) := HM2.out.only (S := fun _ => False) (Only.of_below hO3) id id
  have HB3 := Lib.hid (HB2.out.trans (hO3.mono HB2.out.size))
  have HTL := Lib.hid (show wb.heap.size ≤ tp by rw [htp]; exact HB2.out.size)
  rw [← hw3, ← htp]
  clear hw3 htp hT hO3 HC2 HM2 HB2 HB0 HB1 HM1
  go_wp2_with fail
  refine (known_c w3).mono ?_
  rintro e w4 ⟨rfl, hb4⟩
  have HC4 : Hid (ChW w4 pc Ch0) := HC3.out.only (S := fun _ => False) (Only.of_below hb4) id
  have HM4 : Hid (MW w4 m g (MKF ⟨so, 2, sn, sm, si, 0⟩ ⟨ro, 4, rn, rm, ri, 0⟩)) := HM3.out.only (S := fun _ => False) (Only.of_below hb4) id id
  have HT4 : Hid (Tr w4 tp none []) := HT3.out.keep (Only.of_below (S := fun _ => False) hb4) (fun _ _ => id)
  have HB4 := Lib.hid (HB3.out.trans (hb4.mono HB3.out.size))
  have HNT : Hid (pc ≠ tp) := Lib.hid (by obtain ⟨v, h1, _⟩ := HT4.out; exact HC4.out.1.ne h1 (by decide))
  have HMT : Hid (m ≠ tp ∧ g ≠ tp) := by
    obtain ⟨hb, cs, hc, _⟩ := HM4.out
    obtain ⟨v, h1, _⟩ := HT4.out
    exact ⟨hb.ne h1 (by decide), hc.ne h1 (by decide)⟩
  clear hb4 HC3 HM3 HT3 HB3
  have HAP := Lib.hid (HC4.out.apart HM4.out)
  go_wp2_with fail
  refine (HPK3.out _).mono ?_
  rintro e w' ⟨rfl, rfl⟩
  clear HPK3
  obtain ⟨hb0, hb1⟩ := HBS.out
  have z1 := HC4.out.frozen 1
  have q1 := HC4.out.reg (k := 1) (by omega)
  have z2 := HC4.out.frozen 2
  have q2 := HC4.out.reg (k := 2) (by omega)
  have z3 := HC4.out.frozen 3
  have q3 := HC4.out.reg (k := 3) (by omega)
  have z13 := HC4.out.frozen 13
  have q13 := HC4.out.reg (k := 13) (by omega)
  have HC5 : Hid (ChW _ pc (MS (131072 + 4 * q) n 0 0 0 0 0 0)) := Lib.hid ((((HC4.out.setReg (k := 1) (x := (131072 + 4 * q)) (by omega) (by first | exact HN.out | (unfold U; omega))).setReg (k := 2) (x := n) (by omega) (by first | exact HN.out | (unfold U; omega))).setReg (k := 3) (x := 8) (by omega) (by first | exact HN.out | (unfold U; omega))).setReg (k := 13) (x := (131072 + 4 * q - 32)) (by omega) (by first | exact HN.out | (unfold U; omega)))
  have O5 := Lib.hid (((((Only.refl (fun j => j = pc) w4).setCell (p := ⟨pc, 1, none⟩) (.inl rfl) (.int .u32 (131072 + 4 * q))).setCell (p := ⟨pc, 2, none⟩) (.inl rfl) (.int .u32 n)).setCell (p := ⟨pc, 3, none⟩) (.inl rfl) (.int .u32 8)).setCell (p := ⟨pc, 13, none⟩) (.inl rfl) (.int .u32 (131072 + 4 * q - 32)))

  have hc5b := HC5.out.setReg (k := 13) (x := 131072 + 4 * q + 8 - 40) (by omega) (by unfold U; omega)
  have O5b := Lib.hid (O5.out.setCell (p := ⟨pc, 13, none⟩) (.inl rfl) (.int .u32 (131072 + 4 * q + 8 - 40)))
  have e8 : (131072 + 4 * q + 8 - 40) = 131072 + 4 * q - 32 := by omega
  have hc5c : ChW (((((w4.setCell ⟨pc, 1, none⟩ (.int .u32 (131072 + 4 * q))).setCell ⟨pc, 2, none⟩ (.int .u32 n)).setCell ⟨pc, 3, none⟩ (.int .u32 8)).setCell ⟨pc, 13, none⟩ (.int .u32 (131072 + 4 * q - 32))).setCell ⟨pc, 13, none⟩ (.int .u32 (131072 + 4 * q - 32))) pc (MS (131072 + 4 * q) n 0 0 0 0 0 0) := by rw [e8] at hc5b; exact hc5b
  have HC5b := Lib.hid hc5c
  rw [e8] at O5b
  clear hc5b hc5c
  by_cases hlt : 131072 + 4 * q < 131104
  · go_upto_region 15 with (fail)
    obtain ⟨w5, hw5⟩ : ∃ w5, w5 = (((((w4.setCell ⟨pc, 1, none⟩ (.int .u32 (131072 + 4 * q))).setCell ⟨pc, 2, none⟩ (.int .u32 n)).setCell ⟨pc, 3, none⟩ (.int .u32 8)).setCell ⟨pc, 13, none⟩ (.int .u32 (131072 + 4 * q - 32))).setCell ⟨pc, 13, none⟩ (.int .u32 (131072 + 4 * q - 32))) := ⟨_, rfl⟩
    have HC6 : Hid (ChW w5 pc (MS (131072 + 4 * q) n 0 0 0 0 0 0)) := by rw [hw5]; exact HC5b.out
    have O6 : Hid (Only (fun j => j = pc) w4 w5) := by rw [hw5]; exact O5b.out
    rw [← hw5]
    clear hw5 HC5 HC5b O5 O5b q1 q2 q3 q13 z1 z2 z3 z13
    have HM5 := Lib.hid (HM4.out.only O6.out (fun e => HAP.out.1 e.symm) (fun e => HAP.out.2 e.symm))
    have HT5 : Hid (Tr w5 tp none []) := HT4.out.keep O6.out (fun j hj e => by rcases hj with h | h <;> first | exact HNT.out (e.symm.trans h) | cases h)
    have HB5 : Hid (Below wb.heap.size wb w5) := HB4.out.trans (O6.out.below HB4.out.size (fun j e => by rw [e]; exact HPL.out))
    clear HC4 HM4 HT4 HB4 O6
    go_wp2_with fail
    refine (run_c w5 pc m g (some ⟨tp, 0, none⟩) none _ _ [] 9 HC6.out HM5.out (fun tp' e => by injection e with e; injection e with e; subst e; exact HT5.out) (fun a e => ⟨tp, by injection e with e; exact e.symm⟩) (by decide)).mono ?_
    rintro e w6 ⟨rfl, hc6, _, tg6, ht6, o6⟩
    obtain ⟨evs, hr⟩ := HRUN.out (.pointer (some ⟨m, 0, none⟩))
    have hrl := runUp_len (.pointer (some ⟨m, 0, none⟩)) (MS (131072 + 4 * q) n 0 0 0 0 0 0) (MKF ⟨so, 2, sn, sm, si, 0⟩ ⟨ro, 4, rn, rm, ri, 0⟩) 9
    rw [hr] at hc6 ht6 hrl ⊢
    dsimp only at hc6 ht6 hrl ⊢
    have HT6 : Hid (Tr w6 tp tg6 (⟨4, 0, 131072 + 4 * q + 8, 2⟩ :: evs)) := by
      rcases ht6 with ⟨h, _⟩ | ⟨tp', h1, h2, _⟩
      · cases h
      · injection h1 with h1; injection h1 with h1; subst h1; exact h2
    have HB6 : Hid (Below wb.heap.size wb w6) := HB5.out.trans (o6.below HB5.out.size (fun j h => by
      rcases h with h | h | ⟨tp', h1, h2⟩ | ⟨_, h⟩
      · rw [h]; exact HPL.out
      · rw [h]; exact HGS.out
      · injection h1 with h1; injection h1 with h1; rw [h2, ← h1]; exact HTL.out
      · cases h))
    have HC7 := Lib.hid hc6
    clear hc6 ht6 o6 hr hrl HRUN HC6 HM5 HT5 HB5
    simp only [show (MS (131072 + 4 * q) n n (n / 256 % 256) 8 7 1 1).st = 1 from rfl]
    go_wp2_with fail
    refine (trAt_c w6 tp tg6 _ HT6.out 0 (by simp)).mono ?_
    rintro e w7 ⟨rfl, hb7⟩
    have HO7 := Lib.hid (Only.of_below (S := fun _ => False) hb7)
    clear hb7
    dsimp only [Ev.val, List.getElem_cons_zero]
    go_upto_region 17 with (fail)
    have KE := Blk.new w7 51 #[.int .i64 4, .int .i64 0, .int .i64 (131072 + 4 * q + 8), .int .i64 2]
    have hO8 := HO7.out.trans ((Only.refl (fun _ => False) w7).alloc (.cells #[.int .i64 4, .int .i64 0, .int .i64 (131072 + 4 * q + 8), .int .i64 2] 51)) (fun _ _ h => h)
    obtain ⟨w8, hw8⟩ : ∃ w8, w8 = w7.alloc (.cells #[.int .i64 4, .int .i64 0, .int .i64 (131072 + 4 * q + 8), .int .i64 2] 51) := ⟨_, rfl⟩
    rw [← hw8] at KE hO8 ⊢
    have HB8 : Hid (Below w.heap.size w w8) := hbb.trans ((HB6.out.trans (hO8.below HB6.out.size (fun _ h => h.elim))).mono hbb.size)
    have HC8 := HC7.out.only hO8 id
    have k2 := KE.cell 2
    have q4 : w8.cell? ⟨pc, 4, none⟩ = some (.int .u32 n) := HC8.reg (k := 4) (by omega)
    have q5 : w8.cell? ⟨pc, 5, none⟩ = some (.int .u32 (n / 256 % 256)) := HC8.reg (k := 5) (by omega)
    have q22 : w8.cell? ⟨pc, 22, none⟩ = some (.int .i64 7) := HC8.rest.2.2.2.2.2.2
    simp at k2
    obtain ⟨n0, n1⟩ := HN.out
    have hbt : bits .and .u32 (n / 256) 255 = n / 256 % 256 := by
      have := u32_and (n / 256) 255 (by omega) (by omega) (by decide) (by decide)
      rw [this, show (255 : Int).toNat = 2 ^ 8 - 1 from rfl, Nat.and_two_pow_sub_one_eq_mod]
      omega
    generalize w7.heap.size = ep at *
    clear hw8 KE hO8 HC8 HT6 HB6 HC7 HO7 hbb
    go_wp2_with fail
    go_ret
    exact ⟨rfl, HB8.out⟩
  · go_upto_region 15 with (fail)
    obtain ⟨w5, hw5⟩ : ∃ w5, w5 = ((((w4.setCell ⟨pc, 1, none⟩ (.int .u32 (131072 + 4 * q))).setCell ⟨pc, 2, none⟩ (.int .u32 n)).setCell ⟨pc, 3, none⟩ (.int .u32 8)).setCell ⟨pc, 13, none⟩ (.int .u32 (131072 + 4 * q - 32))) := ⟨_, rfl⟩
    have HC6 : Hid (ChW w5 pc (MS (131072 + 4 * q) n 0 0 0 0 0 0)) := by rw [hw5]; exact HC5.out
    have O6 : Hid (Only (fun j => j = pc) w4 w5) := by rw [hw5]; exact O5.out
    rw [← hw5]
    clear hw5 HC5 HC5b O5 O5b q1 q2 q3 q13 z1 z2 z3 z13
    have HM5 := Lib.hid (HM4.out.only O6.out (fun e => HAP.out.1 e.symm) (fun e => HAP.out.2 e.symm))
    have HT5 : Hid (Tr w5 tp none []) := HT4.out.keep O6.out (fun j hj e => by rcases hj with h | h <;> first | exact HNT.out (e.symm.trans h) | cases h)
    have HB5 : Hid (Below wb.heap.size wb w5) := HB4.out.trans (O6.out.below HB4.out.size (fun j e => by rw [e]; exact HPL.out))
    clear HC4 HM4 HT4 HB4 O6
    go_wp2_with fail
    refine (run_c w5 pc m g (some ⟨tp, 0, none⟩) none _ _ [] 9 HC6.out HM5.out (fun tp' e => by injection e with e; injection e with e; subst e; exact HT5.out) (fun a e => ⟨tp, by injection e with e; exact e.symm⟩) (by decide)).mono ?_
    rintro e w6 ⟨rfl, hc6, _, tg6, ht6, o6⟩
    obtain ⟨evs, hr⟩ := HRUN.out (.pointer (some ⟨m, 0, none⟩))
    have hrl := runUp_len (.pointer (some ⟨m, 0, none⟩)) (MS (131072 + 4 * q) n 0 0 0 0 0 0) (MKF ⟨so, 2, sn, sm, si, 0⟩ ⟨ro, 4, rn, rm, ri, 0⟩) 9
    rw [hr] at hc6 ht6 hrl ⊢
    dsimp only at hc6 ht6 hrl ⊢
    have HT6 : Hid (Tr w6 tp tg6 (⟨4, 0, 131072 + 4 * q + 8, 2⟩ :: evs)) := by
      rcases ht6 with ⟨h, _⟩ | ⟨tp', h1, h2, _⟩
      · cases h
      · injection h1 with h1; injection h1 with h1; subst h1; exact h2
    have HB6 : Hid (Below wb.heap.size wb w6) := HB5.out.trans (o6.below HB5.out.size (fun j h => by
      rcases h with h | h | ⟨tp', h1, h2⟩ | ⟨_, h⟩
      · rw [h]; exact HPL.out
      · rw [h]; exact HGS.out
      · injection h1 with h1; injection h1 with h1; rw [h2, ← h1]; exact HTL.out
      · cases h))
    have HC7 := Lib.hid hc6
    clear hc6 ht6 o6 hr hrl HRUN HC6 HM5 HT5 HB5
    simp only [show (MS (131072 + 4 * q) n n (n / 256 % 256) 8 7 1 1).st = 1 from rfl]
    go_wp2_with fail
    refine (trAt_c w6 tp tg6 _ HT6.out 0 (by simp)).mono ?_
    rintro e w7 ⟨rfl, hb7⟩
    have HO7 := Lib.hid (Only.of_below (S := fun _ => False) hb7)
    clear hb7
    dsimp only [Ev.val, List.getElem_cons_zero]
    go_upto_region 17 with (fail)
    have KE := Blk.new w7 51 #[.int .i64 4, .int .i64 0, .int .i64 (131072 + 4 * q + 8), .int .i64 2]
    have hO8 := HO7.out.trans ((Only.refl (fun _ => False) w7).alloc (.cells #[.int .i64 4, .int .i64 0, .int .i64 (131072 + 4 * q + 8), .int .i64 2] 51)) (fun _ _ h => h)
    obtain ⟨w8, hw8⟩ : ∃ w8, w8 = w7.alloc (.cells #[.int .i64 4, .int .i64 0, .int .i64 (131072 + 4 * q + 8), .int .i64 2] 51) := ⟨_, rfl⟩
    rw [← hw8] at KE hO8 ⊢
    have HB8 : Hid (Below w.heap.size w w8) := hbb.trans ((HB6.out.trans (hO8.below HB6.out.size (fun _ h => h.elim))).mono hbb.size)
    have HC8 := HC7.out.only hO8 id
    have k2 := KE.cell 2
    have q4 : w8.cell? ⟨pc, 4, none⟩ = some (.int .u32 n) := HC8.reg (k := 4) (by omega)
    have q5 : w8.cell? ⟨pc, 5, none⟩ = some (.int .u32 (n / 256 % 256)) := HC8.reg (k := 5) (by omega)
    have q22 : w8.cell? ⟨pc, 22, none⟩ = some (.int .i64 7) := HC8.rest.2.2.2.2.2.2
    simp at k2
    obtain ⟨n0, n1⟩ := HN.out
    have hbt : bits .and .u32 (n / 256) 255 = n / 256 % 256 := by
      have := u32_and (n / 256) 255 (by omega) (by omega) (by decide) (by decide)
      rw [this, show (255 : Int).toNat = 2 ^ 8 - 1 from rfl, Nat.and_two_pow_sub_one_eq_mod]
      omega
    generalize w7.heap.size = ep at *
    clear hw8 KE hO8 HC8 HT6 HB6 HC7 HO7 hbb
    go_wp2_with fail
    go_ret
    exact ⟨rfl, HB8.out⟩
theorem mix_s0 (wq : World) : (Instr.index 70 (.agg #[.int .i64 32, .int .i64 2, .int .i64 1, .int .i64 0, .int .i64 8, .int .i64 0, .int .i64 30, .int .i64 2, .int .i64 1, .int .i64 3, .int .i64 0, .int .i64 0, .int .i64 36, .int .i64 2, .int .i64 0, .int .i64 0, .int .i64 40, .int .i64 0]) (.int .i64 0)).run Try.prog wq = .ok (.agg #[.int .i64 32, .int .i64 2, .int .i64 1, .int .i64 0, .int .i64 8, .int .i64 0]) wq := by kernel_rfl
theorem mix_s1 (wq : World) : (Instr.index 70 (.agg #[.int .i64 32, .int .i64 2, .int .i64 1, .int .i64 0, .int .i64 8, .int .i64 0, .int .i64 30, .int .i64 2, .int .i64 1, .int .i64 3, .int .i64 0, .int .i64 0, .int .i64 36, .int .i64 2, .int .i64 0, .int .i64 0, .int .i64 40, .int .i64 0]) (.int .i64 1)).run Try.prog wq = .ok (.agg #[.int .i64 30, .int .i64 2, .int .i64 1, .int .i64 3, .int .i64 0, .int .i64 0]) wq := by kernel_rfl
theorem mix_s2 (wq : World) : (Instr.index 70 (.agg #[.int .i64 32, .int .i64 2, .int .i64 1, .int .i64 0, .int .i64 8, .int .i64 0, .int .i64 30, .int .i64 2, .int .i64 1, .int .i64 3, .int .i64 0, .int .i64 0, .int .i64 36, .int .i64 2, .int .i64 0, .int .i64 0, .int .i64 40, .int .i64 0]) (.int .i64 2)).run Try.prog wq = .ok (.agg #[.int .i64 36, .int .i64 2, .int .i64 0, .int .i64 0, .int .i64 40, .int .i64 0]) wq := by kernel_rfl
theorem mix_r0 (wq : World) : (Instr.index 70 (.agg #[.int .i64 31, .int .i64 4, .int .i64 1, .int .i64 0, .int .i64 8, .int .i64 0, .int .i64 29, .int .i64 4, .int .i64 1, .int .i64 3, .int .i64 0, .int .i64 0, .int .i64 35, .int .i64 4, .int .i64 0, .int .i64 0, .int .i64 40, .int .i64 0]) (.int .i64 0)).run Try.prog wq = .ok (.agg #[.int .i64 31, .int .i64 4, .int .i64 1, .int .i64 0, .int .i64 8, .int .i64 0]) wq := by kernel_rfl
theorem mix_r1 (wq : World) : (Instr.index 70 (.agg #[.int .i64 31, .int .i64 4, .int .i64 1, .int .i64 0, .int .i64 8, .int .i64 0, .int .i64 29, .int .i64 4, .int .i64 1, .int .i64 3, .int .i64 0, .int .i64 0, .int .i64 35, .int .i64 4, .int .i64 0, .int .i64 0, .int .i64 40, .int .i64 0]) (.int .i64 1)).run Try.prog wq = .ok (.agg #[.int .i64 29, .int .i64 4, .int .i64 1, .int .i64 3, .int .i64 0, .int .i64 0]) wq := by kernel_rfl
theorem mix_r2 (wq : World) : (Instr.index 70 (.agg #[.int .i64 31, .int .i64 4, .int .i64 1, .int .i64 0, .int .i64 8, .int .i64 0, .int .i64 29, .int .i64 4, .int .i64 1, .int .i64 3, .int .i64 0, .int .i64 0, .int .i64 35, .int .i64 4, .int .i64 0, .int .i64 0, .int .i64 40, .int .i64 0]) (.int .i64 2)).run Try.prog wq = .ok (.agg #[.int .i64 35, .int .i64 4, .int .i64 0, .int .i64 0, .int .i64 40, .int .i64 0]) wq := by kernel_rfl
theorem chipMemory_top (v0 v1 v2 v3 : Value) (w : World) (u0 : Vw.Arg Try.prog w 41 v0) (u1 : Vw.Arg Try.prog w 3 v1) (u2 : Vw.Arg Try.prog w 3 v2) (u3 : Vw.Arg Try.prog w 3 v3) :
    Calls Try.prog 10 #[v0, v1, v2, v3] w fun e w' => e = .returned (.bool true) ∧ Below w.heap.size w w' := by
  obtain ⟨n, rfl, hn⟩ := u0.int Try.underlying41
  obtain ⟨h, rfl, _⟩ := u1.int Try.underlying3
  obtain ⟨g0, rfl, _⟩ := u2.int Try.underlying3
  obtain ⟨a, rfl, _⟩ := u3.int Try.underlying3
  simp [Lit.wf, IntKind.min, IntKind.max, IntKind.signed, IntKind.bits] at hn
  have hn' : U n := by unfold U; omega
  have p1 : ∀ w, Calls Try.prog 27 #[.int .i64 h, .int .i64 3] w fun e w' => e = .returned (.int .i64 (h % 3)) ∧ w = w' := fun w => pickN h 3 (by decide) (by decide) w
  have p2 : ∀ w, Calls Try.prog 27 #[.int .i64 g0, .int .i64 3] w fun e w' => e = .returned (.int .i64 (g0 % 3)) ∧ w = w' := fun w => pickN g0 3 (by decide) (by decide) w
  have p3 : ∀ w, Calls Try.prog 27 #[.int .i64 a, .int .i64 1000] w fun e w' => e = .returned (.int .i64 (a % 1000)) ∧ w = w' := fun w => pickN a 1000 (by decide) (by decide) w
  have h1 : h % 3 = 0 ∨ h % 3 = 1 ∨ h % 3 = 2 := by omega
  have h2 : g0 % 3 = 0 ∨ g0 % 3 = 1 ∨ g0 % 3 = 2 := by omega
  rcases h1 with h1 | h1 | h1 <;> rcases h2 with h2 | h2 | h2 <;> rw [h1] at p1 <;> rw [h2] at p2
  · exact chipMemory_c w n h 0 g0 0 a (a % 1000) _ _ _ _ _ _ _ _ hn' (by omega) (by omega) p1 p2 p3 mix_s0 mix_r0 mk_r00 (m_run00 _ n hn' (by omega) (by omega) (by omega))
  · exact chipMemory_c w n h 0 g0 1 a (a % 1000) _ _ _ _ _ _ _ _ hn' (by omega) (by omega) p1 p2 p3 mix_s0 mix_r1 mk_r01 (m_run01 _ n hn' (by omega) (by omega) (by omega))
  · exact chipMemory_c w n h 0 g0 2 a (a % 1000) _ _ _ _ _ _ _ _ hn' (by omega) (by omega) p1 p2 p3 mix_s0 mix_r2 mk_r02 (m_run02 _ n hn' (by omega) (by omega) (by omega))
  · exact chipMemory_c w n h 1 g0 0 a (a % 1000) _ _ _ _ _ _ _ _ hn' (by omega) (by omega) p1 p2 p3 mix_s1 mix_r0 mk_r10 (m_run10 _ n hn' (by omega) (by omega) (by omega))
  · exact chipMemory_c w n h 1 g0 1 a (a % 1000) _ _ _ _ _ _ _ _ hn' (by omega) (by omega) p1 p2 p3 mix_s1 mix_r1 mk_r11 (m_run11 _ n hn' (by omega) (by omega) (by omega))
  · exact chipMemory_c w n h 1 g0 2 a (a % 1000) _ _ _ _ _ _ _ _ hn' (by omega) (by omega) p1 p2 p3 mix_s1 mix_r2 mk_r12 (m_run12 _ n hn' (by omega) (by omega) (by omega))
  · exact chipMemory_c w n h 2 g0 0 a (a % 1000) _ _ _ _ _ _ _ _ hn' (by omega) (by omega) p1 p2 p3 mix_s2 mix_r0 mk_r20 (m_run20 _ n hn' (by omega) (by omega) (by omega))
  · exact chipMemory_c w n h 2 g0 1 a (a % 1000) _ _ _ _ _ _ _ _ hn' (by omega) (by omega) p1 p2 p3 mix_s2 mix_r1 mk_r21 (m_run21 _ n hn' (by omega) (by omega) (by omega))
  · exact chipMemory_c w n h 2 g0 2 a (a % 1000) _ _ _ _ _ _ _ _ hn' (by omega) (by omega) p1 p2 p3 mix_s2 mix_r2 mk_r22 (m_run22 _ n hn' (by omega) (by omega) (by omega))
end Go.Proofs.Ytpihjhfaeloapaa
