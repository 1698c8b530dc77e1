/- ref14.Right. -/
import Derived.Test.YtpcjkllhieiiiaaThQ
import Derived.Test.YtpcjkllhieiiiaaThC
import Derived.BigGuardPart
namespace Go.Proofs.Ytpcjkllhieiiiaa
open Go.RowKit On Th
set_option maxHeartbeats 1000000 in
theorem in_c (n a b s : Int) (hs : s ≠ 0) (w : World) : Calls Try.prog 25 #[.int .i64 n, .int .i64 a, .int .i64 b, .int .i64 s] w fun e w' => e = .returned (.bool (inS n a b s)) ∧ w = w' := by
  go_enter Try.func25, Try.ntmps25
  go_wp2_with fail
  all_goals
    go_ret
    refine ⟨retB ?_, rfl⟩
    rw [Bool.eq_iff_iff]
    unfold inS
    first | (simp; done) | (simp; omega)
set_option maxHeartbeats 1000000 in
theorem low_c (r : Int) (w : World) : Calls Try.prog 38 #[.int .i64 r] w fun e w' => e = .returned (.bool (decide (0 ≤ r) && decide (r ≤ 7))) ∧ w = w' := by
  go_enter Try.func38, Try.ntmps38
  go_wp2_with fail
  all_goals
    go_ret
    refine ⟨retB ?_, rfl⟩
    rw [Bool.eq_iff_iff]
    first | (simp; done) | (simp; omega)
set_option maxHeartbeats 1000000 in
theorem use_c (u : Bool) (r : Int) (w : World) : Calls Try.prog 27 #[.bool u, .int .i64 r] w fun e w' => e = .returned (.bool (useS u r)) ∧ w = w' := by
  go_enter Try.func27, Try.ntmps27
  cases u
  all_goals
    go_wp2_with (first | (go_at_call 38; refine (low_c _ _).mono ?_; rintro e w' ⟨rfl, rfl⟩))
  all_goals
    go_ret
    refine ⟨retB ?_, rfl⟩
    rw [Bool.eq_iff_iff]
    unfold useS
    first | (simp; done) | (simp; omega)
set_option maxHeartbeats 2000000 in
theorem ref_cond (op d n m imm cond : Int) (w : World) (h41 : op ≠ 41) (hc : cond ≠ 0) : Calls Try.prog 11 #[.agg #[.int .i64 op, .int .i64 d, .int .i64 n, .int .i64 m, .int .i64 imm, .int .i64 cond]] w fun e w' => e = .returned (.bool false) ∧ Below w.heap.size w w' := by
  have b1 : (op == 41) = false := by simpa using h41
  have b2 : (cond == 0) = false := by simpa using hc
  have b3 : (op != 41) = true := by simp [h41]
  have b4 : (cond != 0) = true := by simp [hc]
  clear h41 hc
  have KI : Blk (w.alloc (.cells #[.int .i64 op, .int .i64 d, .int .i64 n, .int .i64 m, .int .i64 imm, .int .i64 cond] 24)) w.heap.size 24 #[.int .i64 op, .int .i64 d, .int .i64 n, .int .i64 m, .int .i64 imm, .int .i64 cond] := Blk.new _ _ _
  have HB0 : Hid (Below w.heap.size w (w.alloc (.cells #[.int .i64 op, .int .i64 d, .int .i64 n, .int .i64 m, .int .i64 imm, .int .i64 cond] 24))) := (Below.refl _ _).alloc (Nat.le_refl _) _
  go_enter Try.func11, Try.ntmps11
  go_wp2_with fail
  go_ret
  exact ⟨rfl, HB0.out⟩
set_option maxHeartbeats 2000000 in
theorem ref_41no (d n m imm cond : Int) (w : World) (hc : inS cond 0 13 1 = false) : Calls Try.prog 11 #[.agg #[.int .i64 41, .int .i64 d, .int .i64 n, .int .i64 m, .int .i64 imm, .int .i64 cond]] w fun e w' => e = .returned (.bool false) ∧ Below w.heap.size w w' := by
  have p1 : Hid (∀ w, Calls Try.prog 25 #[.int .i64 cond, .int .i64 0, .int .i64 13, .int .i64 1] w fun e w' => e = .returned (.bool false) ∧ w = w') := fun w => (in_c _ _ _ _ (by decide) w).mono fun e w' h => ⟨h.1.trans (by rw [hc]), h.2⟩
  have KI : Blk (w.alloc (.cells #[.int .i64 41, .int .i64 d, .int .i64 n, .int .i64 m, .int .i64 imm, .int .i64 cond] 24)) w.heap.size 24 #[.int .i64 41, .int .i64 d, .int .i64 n, .int .i64 m, .int .i64 imm, .int .i64 cond] := Blk.new _ _ _
  have HB0 : Hid (Below w.heap.size w (w.alloc (.cells #[.int .i64 41, .int .i64 d, .int .i64 n, .int .i64 m, .int .i64 imm, .int .i64 cond] 24))) := (Below.refl _ _).alloc (Nat.le_refl _) _
  go_enter Try.func11, Try.ntmps11
  go_wp2_with (first | (go_at_call 25; refine (p1.out _).mono ?_; rintro e w' ⟨rfl, rfl⟩))
  go_ret
  exact ⟨rfl, HB0.out⟩
set_option maxHeartbeats 4000000 in
theorem ref_41 (d n m imm cond : Int) (f : Fm) (w : World) (hc : inS cond 0 13 1 = true) (hf : ∀ w, Calls Try.prog 26 #[.int .i64 41] w fun e w' => e = .returned (.tuple #[.agg #[.bool f.d, .bool f.n, .bool f.m, .int .i64 f.least, .int .i64 f.most, .int .i64 f.step], .bool true]) ∧ Below w.heap.size w w') :
    Calls Try.prog 11 #[.agg #[.int .i64 41, .int .i64 d, .int .i64 n, .int .i64 m, .int .i64 imm, .int .i64 cond]] w fun e w' => e = .returned (.bool (rightF (some f) ⟨41, d, n, m, imm, cond⟩)) ∧ Below w.heap.size w w' := by
  have HF := Lib.hid hf
  clear hf
  have p1 : Hid (∀ w, Calls Try.prog 25 #[.int .i64 cond, .int .i64 0, .int .i64 13, .int .i64 1] w fun e w' => e = .returned (.bool true) ∧ w = w') := fun w => (in_c _ _ _ _ (by decide) w).mono fun e w' h => ⟨h.1.trans (by rw [hc]), h.2⟩
  have KI : Blk (w.alloc (.cells #[.int .i64 41, .int .i64 d, .int .i64 n, .int .i64 m, .int .i64 imm, .int .i64 cond] 24)) w.heap.size 24 #[.int .i64 41, .int .i64 d, .int .i64 n, .int .i64 m, .int .i64 imm, .int .i64 cond] := Blk.new _ _ _
  have HB0 : Hid (Below w.heap.size w (w.alloc (.cells #[.int .i64 41, .int .i64 d, .int .i64 n, .int .i64 m, .int .i64 imm, .int .i64 cond] 24))) := (Below.refl _ _).alloc (Nat.le_refl _) _
  obtain ⟨fd, fn, fm, fl, ft, fs⟩ := f
  have HV : Hid (∃ v, rightF (some ⟨fd, fn, fm, fl, ft, fs⟩) ⟨41, d, n, m, imm, cond⟩ = v) := ⟨_, rfl⟩
  obtain ⟨v, hv⟩ := HV.out
  rw [hv]
  have hv' : (useS fd d && useS fn n && useS fm m && (if fs = 0 then imm == 0 else inS imm fl ft fs)) = v := hv
  clear hv
  have hv := hv'
  clear hv'
  dsimp only at HF
  clear HV
  obtain ⟨ud, hud⟩ : ∃ u, useS fd d = u := ⟨_, rfl⟩
  obtain ⟨un, hun⟩ : ∃ u, useS fn n = u := ⟨_, rfl⟩
  obtain ⟨um, hum⟩ : ∃ u, useS fm m = u := ⟨_, rfl⟩
  rw [hud, hun, hum] at hv
  have pd : Hid (∀ w, Calls Try.prog 27 #[.bool fd, .int .i64 d] w fun e w' => e = .returned (.bool ud) ∧ w = w') := fun w => (use_c fd d w).mono fun e w' h => ⟨h.1.trans (by rw [hud]), h.2⟩
  have pn : Hid (∀ w, Calls Try.prog 27 #[.bool fn, .int .i64 n] w fun e w' => e = .returned (.bool un) ∧ w = w') := fun w => (use_c fn n w).mono fun e w' h => ⟨h.1.trans (by rw [hun]), h.2⟩
  have pm : Hid (∀ w, Calls Try.prog 27 #[.bool fm, .int .i64 m] w fun e w' => e = .returned (.bool um) ∧ w = w') := fun w => (use_c fm m w).mono fun e w' h => ⟨h.1.trans (by rw [hum]), h.2⟩
  clear hud hun hum
  by_cases hs0 : fs = 0
  · rw [if_pos hs0] at hv
    subst hs0
    cases ud <;> cases un <;> cases um
    all_goals
      simp only [Bool.true_and, Bool.false_and, Bool.and_true, Bool.and_false] at hv
      have HV := Lib.hid hv
      clear hv
      have KI2 := Lib.hid KI
      go_enter Try.func11, Try.ntmps11
      go_wp2_with (first | (go_at_call 25; refine (p1.out _).mono ?_; rintro e w' ⟨rfl, rfl⟩))
      refine (HF.out _).mono ?_
      rintro e w2 ⟨rfl, hb⟩
      have ki := (KI.only (S := fun _ => False) (Only.of_below hb) id).alloc (.cells #[.bool fd, .bool fn, .bool fm, .int .i64 fl, .int .i64 ft, .int .i64 0] 62)
      have kf := Blk.new w2 62 #[.bool fd, .bool fn, .bool fm, .int .i64 fl, .int .i64 ft, .int .i64 0]
      have c1 := ki.cell 1
      have c2 := ki.cell 2
      have c3 := ki.cell 3
      have c4 := ki.cell 4
      have g0 := kf.cell 0
      have g1 := kf.cell 1
      have g2 := kf.cell 2
      have g3 := kf.cell 3
      have g4 := kf.cell 4
      have g5 := kf.cell 5
      simp at c1 c2 c3 c4 g0 g1 g2 g3 g4 g5
      have HB2 := Lib.hid ((HB0.out.trans (hb.mono HB0.out.size)).alloc (by have := HB0.out.size; have := hb.size; omega) (.cells #[.bool fd, .bool fn, .bool fm, .int .i64 fl, .int .i64 ft, .int .i64 0] 62))
      clear hb ki kf KI
      go_wp2_with (first | (go_at_call 27; (first | (with_reducible refine (pd.out _).mono ?_) | (with_reducible refine (pn.out _).mono ?_) | (with_reducible refine (pm.out _).mono ?_)); rintro e w' ⟨rfl, rfl⟩) | (go_at_call 25; refine (in_c _ _ _ _ (by decide) _).mono ?_; rintro e w' ⟨rfl, rfl⟩))
      go_ret
      exact ⟨retB (by first | exact HV.out | (have := HV.out; simp_all)), HB2.out⟩
  · rw [if_neg hs0] at hv
    have hsb : (fs == 0) = false := by simpa using hs0
    have HS0 := Lib.hid hs0
    clear hs0
    cases ud <;> cases un <;> cases um
    all_goals
      simp only [Bool.true_and, Bool.false_and, Bool.and_true, Bool.and_false] at hv
      have HV := Lib.hid hv
      clear hv
      have KI2 := Lib.hid KI
      go_enter Try.func11, Try.ntmps11
      go_wp2_with (first | (go_at_call 25; refine (p1.out _).mono ?_; rintro e w' ⟨rfl, rfl⟩))
      refine (HF.out _).mono ?_
      rintro e w2 ⟨rfl, hb⟩
      have ki := (KI.only (S := fun _ => False) (Only.of_below hb) id).alloc (.cells #[.bool fd, .bool fn, .bool fm, .int .i64 fl, .int .i64 ft, .int .i64 fs] 62)
      have kf := Blk.new w2 62 #[.bool fd, .bool fn, .bool fm, .int .i64 fl, .int .i64 ft, .int .i64 fs]
      have c1 := ki.cell 1
      have c2 := ki.cell 2
      have c3 := ki.cell 3
      have c4 := ki.cell 4
      have g0 := kf.cell 0
      have g1 := kf.cell 1
      have g2 := kf.cell 2
      have g3 := kf.cell 3
      have g4 := kf.cell 4
      have g5 := kf.cell 5
      simp at c1 c2 c3 c4 g0 g1 g2 g3 g4 g5
      have HB2 := Lib.hid ((HB0.out.trans (hb.mono HB0.out.size)).alloc (by have := HB0.out.size; have := hb.size; omega) (.cells #[.bool fd, .bool fn, .bool fm, .int .i64 fl, .int .i64 ft, .int .i64 fs] 62))
      clear hb ki kf KI
      go_wp2_with (first | (go_at_call 27; (first | (with_reducible refine (pd.out _).mono ?_) | (with_reducible refine (pn.out _).mono ?_) | (with_reducible refine (pm.out _).mono ?_)); rintro e w' ⟨rfl, rfl⟩) | (go_at_call 25; refine (in_c _ _ _ _ HS0.out _).mono ?_; rintro e w' ⟨rfl, rfl⟩))
      go_ret
      exact ⟨retB (by first | exact HV.out | (have := HV.out; simp_all)), HB2.out⟩
set_option maxHeartbeats 4000000 in
theorem ref_row (op d n m imm cond : Int) (f : Fm) (w : World) (h41 : op ≠ 41) (h28 : op ≠ 28) (hc : cond = 0) (hf : ∀ w, Calls Try.prog 26 #[.int .i64 op] w fun e w' => e = .returned (.tuple #[.agg #[.bool f.d, .bool f.n, .bool f.m, .int .i64 f.least, .int .i64 f.most, .int .i64 f.step], .bool true]) ∧ Below w.heap.size w w') :
    Calls Try.prog 11 #[.agg #[.int .i64 op, .int .i64 d, .int .i64 n, .int .i64 m, .int .i64 imm, .int .i64 cond]] w fun e w' => e = .returned (.bool (rightF (some f) ⟨op, d, n, m, imm, cond⟩)) ∧ Below w.heap.size w w' := by
  have HF := Lib.hid hf
  clear hf
  have b1 : (op == 41) = false := by simpa using h41
  have b2 : (op == 28) = false := by simpa using h28
  have b3 : (op != 41) = true := by simp [h41]
  subst hc
  clear h41 h28
  have KI : Blk (w.alloc (.cells #[.int .i64 op, .int .i64 d, .int .i64 n, .int .i64 m, .int .i64 imm, .int .i64 0] 24)) w.heap.size 24 #[.int .i64 op, .int .i64 d, .int .i64 n, .int .i64 m, .int .i64 imm, .int .i64 0] := Blk.new _ _ _
  have HB0 : Hid (Below w.heap.size w (w.alloc (.cells #[.int .i64 op, .int .i64 d, .int .i64 n, .int .i64 m, .int .i64 imm, .int .i64 0] 24))) := (Below.refl _ _).alloc (Nat.le_refl _) _
  obtain ⟨fd, fn, fm, fl, ft, fs⟩ := f
  have HV : Hid (∃ v, rightF (some ⟨fd, fn, fm, fl, ft, fs⟩) ⟨op, d, n, m, imm, 0⟩ = v) := ⟨_, rfl⟩
  obtain ⟨v, hv⟩ := HV.out
  rw [hv]
  have hv' : (useS fd d && useS fn n && useS fm m && (if fs = 0 then imm == 0 else inS imm fl ft fs)) = v := hv
  clear hv
  have hv := hv'
  clear hv'
  dsimp only at HF
  clear HV
  obtain ⟨ud, hud⟩ : ∃ u, useS fd d = u := ⟨_, rfl⟩
  obtain ⟨un, hun⟩ : ∃ u, useS fn n = u := ⟨_, rfl⟩
  obtain ⟨um, hum⟩ : ∃ u, useS fm m = u := ⟨_, rfl⟩
  rw [hud, hun, hum] at hv
  have pd : Hid (∀ w, Calls Try.prog 27 #[.bool fd, .int .i64 d] w fun e w' => e = .returned (.bool ud) ∧ w = w') := fun w => (use_c fd d w).mono fun e w' h => ⟨h.1.trans (by rw [hud]), h.2⟩
  have pn : Hid (∀ w, Calls Try.prog 27 #[.bool fn, .int .i64 n] w fun e w' => e = .returned (.bool un) ∧ w = w') := fun w => (use_c fn n w).mono fun e w' h => ⟨h.1.trans (by rw [hun]), h.2⟩
  have pm : Hid (∀ w, Calls Try.prog 27 #[.bool fm, .int .i64 m] w fun e w' => e = .returned (.bool um) ∧ w = w') := fun w => (use_c fm m w).mono fun e w' h => ⟨h.1.trans (by rw [hum]), h.2⟩
  clear hud hun hum
  by_cases hs0 : fs = 0
  · rw [if_pos hs0] at hv
    subst hs0
    cases ud <;> cases un <;> cases um
    all_goals
      simp only [Bool.true_and, Bool.false_and, Bool.and_true, Bool.and_false] at hv
      have HV := Lib.hid hv
      clear hv
      have KI2 := Lib.hid KI
      go_enter Try.func11, Try.ntmps11
      go_wp2_with fail
      refine (HF.out _).mono ?_
      rintro e w2 ⟨rfl, hb⟩
      have ki := (KI.only (S := fun _ => False) (Only.of_below hb) id).alloc (.cells #[.bool fd, .bool fn, .bool fm, .int .i64 fl, .int .i64 ft, .int .i64 0] 62)
      have kf := Blk.new w2 62 #[.bool fd, .bool fn, .bool fm, .int .i64 fl, .int .i64 ft, .int .i64 0]
      have c1 := ki.cell 1
      have c2 := ki.cell 2
      have c3 := ki.cell 3
      have c4 := ki.cell 4
      have g0 := kf.cell 0
      have g1 := kf.cell 1
      have g2 := kf.cell 2
      have g3 := kf.cell 3
      have g4 := kf.cell 4
      have g5 := kf.cell 5
      simp at c1 c2 c3 c4 g0 g1 g2 g3 g4 g5
      have HB2 := Lib.hid ((HB0.out.trans (hb.mono HB0.out.size)).alloc (by have := HB0.out.size; have := hb.size; omega) (.cells #[.bool fd, .bool fn, .bool fm, .int .i64 fl, .int .i64 ft, .int .i64 0] 62))
      clear hb ki kf KI
      go_wp2_with (first | (go_at_call 27; (first | (with_reducible refine (pd.out _).mono ?_) | (with_reducible refine (pn.out _).mono ?_) | (with_reducible refine (pm.out _).mono ?_)); rintro e w' ⟨rfl, rfl⟩) | (go_at_call 25; refine (in_c _ _ _ _ (by decide) _).mono ?_; rintro e w' ⟨rfl, rfl⟩))
      go_ret
      exact ⟨retB (by first | exact HV.out | (have := HV.out; simp_all)), HB2.out⟩
  · rw [if_neg hs0] at hv
    have hsb : (fs == 0) = false := by simpa using hs0
    have HS0 := Lib.hid hs0
    clear hs0
    cases ud <;> cases un <;> cases um
    all_goals
      simp only [Bool.true_and, Bool.false_and, Bool.and_true, Bool.and_false] at hv
      have HV := Lib.hid hv
      clear hv
      have KI2 := Lib.hid KI
      go_enter Try.func11, Try.ntmps11
      go_wp2_with fail
      refine (HF.out _).mono ?_
      rintro e w2 ⟨rfl, hb⟩
      have ki := (KI.only (S := fun _ => False) (Only.of_below hb) id).alloc (.cells #[.bool fd, .bool fn, .bool fm, .int .i64 fl, .int .i64 ft, .int .i64 fs] 62)
      have kf := Blk.new w2 62 #[.bool fd, .bool fn, .bool fm, .int .i64 fl, .int .i64 ft, .int .i64 fs]
      have c1 := ki.cell 1
      have c2 := ki.cell 2
      have c3 := ki.cell 3
      have c4 := ki.cell 4
      have g0 := kf.cell 0
      have g1 := kf.cell 1
      have g2 := kf.cell 2
      have g3 := kf.cell 3
      have g4 := kf.cell 4
      have g5 := kf.cell 5
      simp at c1 c2 c3 c4 g0 g1 g2 g3 g4 g5
      have HB2 := Lib.hid ((HB0.out.trans (hb.mono HB0.out.size)).alloc (by have := HB0.out.size; have := hb.size; omega) (.cells #[.bool fd, .bool fn, .bool fm, .int .i64 fl, .int .i64 ft, .int .i64 fs] 62))
      clear hb ki kf KI
      go_wp2_with (first | (go_at_call 27; (first | (with_reducible refine (pd.out _).mono ?_) | (with_reducible refine (pn.out _).mono ?_) | (with_reducible refine (pm.out _).mono ?_)); rintro e w' ⟨rfl, rfl⟩) | (go_at_call 25; refine (in_c _ _ _ _ HS0.out _).mono ?_; rintro e w' ⟨rfl, rfl⟩))
      go_ret
      exact ⟨retB (by first | exact HV.out | (have := HV.out; simp_all)), HB2.out⟩
set_option maxHeartbeats 2000000 in
theorem ref_none (op d n m imm cond : Int) (w : World) (h41 : op ≠ 41) (h28 : op ≠ 28) (hc : cond = 0) (hf : ∀ w, Calls Try.prog 26 #[.int .i64 op] w fun e w' => e = .returned (.tuple #[.agg #[.bool false, .bool false, .bool false, .int .i64 0, .int .i64 0, .int .i64 0], .bool false]) ∧ Below w.heap.size w w') :
    Calls Try.prog 11 #[.agg #[.int .i64 op, .int .i64 d, .int .i64 n, .int .i64 m, .int .i64 imm, .int .i64 cond]] w fun e w' => e = .returned (.bool false) ∧ Below w.heap.size w w' := by
  have HF := Lib.hid hf
  have b1 : (op == 41) = false := by simpa using h41
  have b2 : (op == 28) = false := by simpa using h28
  have b3 : (op != 41) = true := by simp [h41]
  clear h41 h28 hf
  subst hc
  have KI : Blk (w.alloc (.cells #[.int .i64 op, .int .i64 d, .int .i64 n, .int .i64 m, .int .i64 imm, .int .i64 0] 24)) w.heap.size 24 #[.int .i64 op, .int .i64 d, .int .i64 n, .int .i64 m, .int .i64 imm, .int .i64 0] := Blk.new _ _ _
  have HB0 : Hid (Below w.heap.size w (w.alloc (.cells #[.int .i64 op, .int .i64 d, .int .i64 n, .int .i64 m, .int .i64 imm, .int .i64 0] 24))) := (Below.refl _ _).alloc (Nat.le_refl _) _
  go_enter Try.func11, Try.ntmps11
  go_wp2_with fail
  refine (HF.out _).mono ?_
  rintro e w2 ⟨rfl, hb⟩
  have HB2 := Lib.hid (HB0.out.trans (hb.mono HB0.out.size))
  clear hb KI
  go_wp2_with fail
  go_ret
  exact ⟨rfl, HB2.out.alloc HB2.out.size _⟩
set_option maxHeartbeats 4000000 in
theorem ref_28 (d n m imm : Int) (w : World) : Calls Try.prog 11 #[.agg #[.int .i64 28, .int .i64 d, .int .i64 n, .int .i64 m, .int .i64 imm, .int .i64 0]] w fun e w' => e = .returned (.bool (rightR ⟨28, d, n, m, imm, 0⟩)) ∧ Below w.heap.size w w' := by
  have KI : Blk (w.alloc (.cells #[.int .i64 28, .int .i64 d, .int .i64 n, .int .i64 m, .int .i64 imm, .int .i64 0] 24)) w.heap.size 24 #[.int .i64 28, .int .i64 d, .int .i64 n, .int .i64 m, .int .i64 imm, .int .i64 0] := Blk.new _ _ _
  have HB0 : Hid (Below w.heap.size w (w.alloc (.cells #[.int .i64 28, .int .i64 d, .int .i64 n, .int .i64 m, .int .i64 imm, .int .i64 0] 24))) := (Below.refl _ _).alloc (Nat.le_refl _) _
  have HV : Hid (∃ v, rightR ⟨28, d, n, m, imm, 0⟩ = v) := ⟨_, rfl⟩
  obtain ⟨v, hv⟩ := HV.out
  rw [hv]
  have hv : ((n == 0) && (imm == 0) && inS d 0 14 1 && !(d == 13) && inS m 0 14 1) = v := by rw [← hv]; simp [rightR]
  clear HV
  obtain ⟨u3, h3⟩ : ∃ u, inS d 0 14 1 = u := ⟨_, rfl⟩
  obtain ⟨u5, h5⟩ : ∃ u, inS m 0 14 1 = u := ⟨_, rfl⟩
  rw [h3, h5] at hv
  have p1 : Hid (∀ w, Calls Try.prog 25 #[.int .i64 d, .int .i64 0, .int .i64 14, .int .i64 1] w fun e w' => e = .returned (.bool u3) ∧ w = w') := fun w => (in_c _ _ _ _ (by decide) w).mono fun e w' h => ⟨h.1.trans (by rw [h3]), h.2⟩
  have p2 : Hid (∀ w, Calls Try.prog 25 #[.int .i64 m, .int .i64 0, .int .i64 14, .int .i64 1] w fun e w' => e = .returned (.bool u5) ∧ w = w') := fun w => (in_c _ _ _ _ (by decide) w).mono fun e w' h => ⟨h.1.trans (by rw [h5]), h.2⟩
  clear h3 h5
  cases h1 : (n == 0) <;> cases h2 : (imm == 0) <;> cases u3 <;> cases h4 : (d == 13) <;> cases u5
  all_goals
    have h4' : (d != 13) = !(d == 13) := rfl
    rw [h4] at h4'
    simp only [Bool.not_true, Bool.not_false] at h4'
    simp only [h1, h2, h4, Bool.and_true, Bool.and_false, Bool.not_true, Bool.not_false] at hv
    have HV := Lib.hid hv
    clear hv
    go_enter Try.func11, Try.ntmps11
    go_wp2_with (first | (go_at_call 25; (first | (with_reducible refine (p1.out _).mono ?_) | (with_reducible refine (p2.out _).mono ?_)); rintro e w' ⟨rfl, rfl⟩))
    go_ret
    exact ⟨retB HV.out, HB0.out⟩
theorem refRight_c (i : Ins) (w : World) : Calls Try.prog 11 #[.agg #[.int .i64 i.op, .int .i64 i.d, .int .i64 i.n, .int .i64 i.m, .int .i64 i.imm, .int .i64 i.cond]] w fun e w' => e = .returned (.bool (rightS i)) ∧ Below w.heap.size w w' := by
  rw [← rightR_eq]
  obtain ⟨op, d, n, m, imm, cond⟩ := i
  by_cases h41 : op = 41
  · subst h41
    cases hc : inS cond 0 13 1
    · exact (ref_41no d n m imm cond w hc).mono fun e w' h => by rw [show rightR ⟨41, d, n, m, imm, cond⟩ = false from by simp [rightR, hc]]; exact h
    · have hf := fun w => (forms_c 41 w)
      refine (ref_41 d n m imm cond ⟨false, false, false, -256, 254, 2⟩ w hc (fun w => (forms_c 41 w).mono fun e w' h => ?_)).mono fun e w' h => ?_
      · exact h
      · rw [show rightR ⟨41, d, n, m, imm, cond⟩ = rightF (formOf 41) ⟨41, d, n, m, imm, cond⟩ from by simp [rightR, hc]]; exact h
  · by_cases hc : cond = 0
    · by_cases h28 : op = 28
      · subst h28; subst hc; exact ref_28 d n m imm w
      · have e : rightR ⟨op, d, n, m, imm, cond⟩ = rightF (formOf op) ⟨op, d, n, m, imm, cond⟩ := by simp [rightR, h41, h28, hc]
        rw [e]
        cases hf : formOf op with
        | none => exact (ref_none op d n m imm cond w h41 h28 hc (fun w => (forms_c op w).mono fun e w' h => by unfold FormAt at h; rw [hf] at h; exact h)).mono fun e w' h => h
        | some f => exact (ref_row op d n m imm cond f w h41 h28 hc (fun w => (forms_c op w).mono fun e w' h => by unfold FormAt at h; rw [hf] at h; exact h)).mono fun e w' h => h
    · exact (ref_cond op d n m imm cond w h41 hc).mono fun e w' h => by rw [show rightR ⟨op, d, n, m, imm, cond⟩ = false from by simp [rightR, h41, hc]]; exact h
end Go.Proofs.Ytpcjkllhieiiiaa
