/- law14's ins: some instruction. -/
import Derived.Test.YtpcjkllhieiiiaaThU
import Derived.Test.YtpcjkllhieiiiaaPk
import Derived.Deep.RegionHeld3
import Derived.Deep.DeepCutAuto
import Derived.Deep.CutBlock
namespace Go.Proofs.Ytpcjkllhieiiiaa
open Go.RowKit On Th
set_option maxHeartbeats 16000000 in
set_option maxRecDepth 100000 in
theorem ins_c (x0 x1 x2 x3 x4 x5 : Int) (w : World) : Calls Try.prog 9 #[.agg #[.int .i64 x0, .int .i64 x1, .int .i64 x2, .int .i64 x3, .int .i64 x4, .int .i64 x5]] w (InsAt w) := by
  obtain ⟨y0, hy0⟩ : ∃ y, x0 % 47 = y := ⟨_, rfl⟩
  have p0 : Hid (∀ w, Calls Try.prog 16 #[.int .i64 x0, .int .i64 47] w fun e w' => e = .returned (.int .i64 y0) ∧ w = w') := fun w => (pickN x0 47 (by decide) (by decide) w).mono (fun _ _ h => ⟨by rw [h.1, hy0], h.2⟩)
  obtain ⟨y1, hy1⟩ : ∃ y, x1 % 8 = y := ⟨_, rfl⟩
  have p1 : Hid (∀ w, Calls Try.prog 16 #[.int .i64 x1, .int .i64 8] w fun e w' => e = .returned (.int .i64 y1) ∧ w = w') := fun w => (pickN x1 8 (by decide) (by decide) w).mono (fun _ _ h => ⟨by rw [h.1, hy1], h.2⟩)
  obtain ⟨y2, hy2⟩ : ∃ y, x2 % 8 = y := ⟨_, rfl⟩
  have p2 : Hid (∀ w, Calls Try.prog 16 #[.int .i64 x2, .int .i64 8] w fun e w' => e = .returned (.int .i64 y2) ∧ w = w') := fun w => (pickN x2 8 (by decide) (by decide) w).mono (fun _ _ h => ⟨by rw [h.1, hy2], h.2⟩)
  obtain ⟨y3, hy3⟩ : ∃ y, x3 % 8 = y := ⟨_, rfl⟩
  have p3 : Hid (∀ w, Calls Try.prog 16 #[.int .i64 x3, .int .i64 8] w fun e w' => e = .returned (.int .i64 y3) ∧ w = w') := fun w => (pickN x3 8 (by decide) (by decide) w).mono (fun _ _ h => ⟨by rw [h.1, hy3], h.2⟩)
  obtain ⟨y4, hy4⟩ : ∃ y, x4 % 300 = y := ⟨_, rfl⟩
  have p4 : Hid (∀ w, Calls Try.prog 16 #[.int .i64 x4, .int .i64 300] w fun e w' => e = .returned (.int .i64 y4) ∧ w = w') := fun w => (pickN x4 300 (by decide) (by decide) w).mono (fun _ _ h => ⟨by rw [h.1, hy4], h.2⟩)
  obtain ⟨y5, hy5⟩ : ∃ y, x5 % 16 = y := ⟨_, rfl⟩
  have p5 : Hid (∀ w, Calls Try.prog 16 #[.int .i64 x5, .int .i64 16] w fun e w' => e = .returned (.int .i64 y5) ∧ w = w') := fun w => (pickN x5 16 (by decide) (by decide) w).mono (fun _ _ h => ⟨by rw [h.1, hy5], h.2⟩)
  obtain ⟨y6, hy6⟩ : ∃ y, x4 % 2200 = y := ⟨_, rfl⟩
  have p6 : Hid (∀ w, Calls Try.prog 16 #[.int .i64 x4, .int .i64 2200] w fun e w' => e = .returned (.int .i64 y6) ∧ w = w') := fun w => (pickN x4 2200 (by decide) (by decide) w).mono (fun _ _ h => ⟨by rw [h.1, hy6], h.2⟩)
  obtain ⟨y7, hy7⟩ : ∃ y, x4 % 16777220 = y := ⟨_, rfl⟩
  have p7 : Hid (∀ w, Calls Try.prog 16 #[.int .i64 x4, .int .i64 16777220] w fun e w' => e = .returned (.int .i64 y7) ∧ w = w') := fun w => (pickN x4 16777220 (by decide) (by decide) w).mono (fun _ _ h => ⟨by rw [h.1, hy7], h.2⟩)
  obtain ⟨y8, hy8⟩ : ∃ y, x4 % 260 = y := ⟨_, rfl⟩
  have p8 : Hid (∀ w, Calls Try.prog 16 #[.int .i64 x4, .int .i64 260] w fun e w' => e = .returned (.int .i64 y8) ∧ w = w') := fun w => (pickN x4 260 (by decide) (by decide) w).mono (fun _ _ h => ⟨by rw [h.1, hy8], h.2⟩)
  obtain ⟨y9, hy9⟩ : ∃ y, x1 % 17 = y := ⟨_, rfl⟩
  have p9 : Hid (∀ w, Calls Try.prog 16 #[.int .i64 x1, .int .i64 17] w fun e w' => e = .returned (.int .i64 y9) ∧ w = w') := fun w => (pickN x1 17 (by decide) (by decide) w).mono (fun _ _ h => ⟨by rw [h.1, hy9], h.2⟩)
  obtain ⟨y10, hy10⟩ : ∃ y, x3 % 17 = y := ⟨_, rfl⟩
  have p10 : Hid (∀ w, Calls Try.prog 16 #[.int .i64 x3, .int .i64 17] w fun e w' => e = .returned (.int .i64 y10) ∧ w = w') := fun w => (pickN x3 17 (by decide) (by decide) w).mono (fun _ _ h => ⟨by rw [h.1, hy10], h.2⟩)
  obtain ⟨y11, hy11⟩ : ∃ y, x4 % 34 = y := ⟨_, rfl⟩
  have p11 : Hid (∀ w, Calls Try.prog 16 #[.int .i64 x4, .int .i64 34] w fun e w' => e = .returned (.int .i64 y11) ∧ w = w') := fun w => (pickN x4 34 (by decide) (by decide) w).mono (fun _ _ h => ⟨by rw [h.1, hy11], h.2⟩)
  obtain ⟨y12, hy12⟩ : ∃ y, x4 % 514 = y := ⟨_, rfl⟩
  have p12 : Hid (∀ w, Calls Try.prog 16 #[.int .i64 x4, .int .i64 514] w fun e w' => e = .returned (.int .i64 y12) ∧ w = w') := fun w => (pickN x4 514 (by decide) (by decide) w).mono (fun _ _ h => ⟨by rw [h.1, hy12], h.2⟩)
  obtain ⟨y13, hy13⟩ : ∃ y, x4 % 9 = y := ⟨_, rfl⟩
  have p13 : Hid (∀ w, Calls Try.prog 16 #[.int .i64 x4, .int .i64 9] w fun e w' => e = .returned (.int .i64 y13) ∧ w = w') := fun w => (pickN x4 9 (by decide) (by decide) w).mono (fun _ _ h => ⟨by rw [h.1, hy13], h.2⟩)
  clear hy0 hy1 hy2 hy3 hy4 hy5 hy6 hy7 hy8 hy9 hy10 hy11 hy12 hy13
  have KR : Blk ((w.alloc (.cells #[.int .i64 x0, .int .i64 x1, .int .i64 x2, .int .i64 x3, .int .i64 x4, .int .i64 x5] 23)).alloc (.cells #[.int .i64 0, .int .i64 0, .int .i64 0, .int .i64 0, .int .i64 0, .int .i64 0] 24)) w.heap.size 23 #[.int .i64 x0, .int .i64 x1, .int .i64 x2, .int .i64 x3, .int .i64 x4, .int .i64 x5] := (Blk.new _ _ _).alloc _
  have kf := Blk.six KR
  have kg := Blk.six (KR.drew.alloc (.cells #[.int .i64 y0, .int .i64 y1, .int .i64 y2, .int .i64 y3, .int .i64 (wrap64 (y4 - 20)), .int .i64 0] 24))
  have KR := Lib.hid KR
  go_enter Try.func9, Try.ntmps9
  go_upto_region 1 with (fail)
  go_cut [3] (fun s wx => s = .pointer (some ⟨w.heap.size + 1 + 1, 0, none⟩) ∧ (((w.alloc (.cells #[.int .i64 x0, .int .i64 x1, .int .i64 x2, .int .i64 x3, .int .i64 x4, .int .i64 x5] 23)).alloc (.cells #[.int .i64 0, .int .i64 0, .int .i64 0, .int .i64 0, .int .i64 0, .int .i64 0] 24)).alloc (.cells #[.int .i64 y0, .int .i64 y1, .int .i64 y2, .int .i64 y3, .int .i64 (IntKind.i64.wrap (y4 - 20)), .int .i64 0] 24)).drew = wx)
  case first =>
    go_region_held3 (fun w' => w'.cell? ⟨w.heap.size, 0, none⟩ = some (.int .i64 x0) ∧ w'.cell? ⟨w.heap.size, 1, none⟩ = some (.int .i64 x1) ∧ w'.cell? ⟨w.heap.size, 2, none⟩ = some (.int .i64 x2) ∧ w'.cell? ⟨w.heap.size, 3, none⟩ = some (.int .i64 x3) ∧ w'.cell? ⟨w.heap.size, 4, none⟩ = some (.int .i64 x4) ∧ w'.cell? ⟨w.heap.size, 5, none⟩ = some (.int .i64 x5)) (first | (with_reducible exact kg) | exact kf | (refine Blk.six (t := 23) ?_; (focus (repeat (first | (with_reducible exact KR.out) | (with_reducible refine Blk.drew ?_) | (with_reducible refine Blk.alloc ?_ _)))))) (first | (go_at_call 16; (first | (with_reducible refine (p0.out _).mono ?_) | (with_reducible refine (p1.out _).mono ?_) | (with_reducible refine (p2.out _).mono ?_) | (with_reducible refine (p3.out _).mono ?_) | (with_reducible refine (p4.out _).mono ?_) | (with_reducible refine (p5.out _).mono ?_) | (with_reducible refine (p6.out _).mono ?_) | (with_reducible refine (p7.out _).mono ?_) | (with_reducible refine (p8.out _).mono ?_) | (with_reducible refine (p9.out _).mono ?_) | (with_reducible refine (p10.out _).mono ?_) | (with_reducible refine (p11.out _).mono ?_) | (with_reducible refine (p12.out _).mono ?_) | (with_reducible refine (p13.out _).mono ?_)); rintro e w' ⟨rfl, rfl⟩))
    all_goals
      go_wp2_with fail
      go_meet
      exact ⟨rfl, rfl⟩
  case rest =>
    obtain ⟨rfl, rfl⟩ := hcut
    have KR := KR.out.alloc (.cells #[.int .i64 y0, .int .i64 y1, .int .i64 y2, .int .i64 y3, .int .i64 (IntKind.i64.wrap (y4 - 20)), .int .i64 0] 24)
    have kr := (Blk.six KR)
    go_upto_block 0 with (fail)
    go_cut [] (fun wx => ∃ o d n m im c : Int, Blk wx (w.heap.size + 1 + 1) 24 #[.int .i64 o, .int .i64 d, .int .i64 n, .int .i64 m, .int .i64 im, .int .i64 c] ∧ Blk wx (w.heap.size + 1) 24 #[.int .i64 0, .int .i64 0, .int .i64 0, .int .i64 0, .int .i64 0, .int .i64 0] ∧ Blk wx w.heap.size 23 #[.int .i64 x0, .int .i64 x1, .int .i64 x2, .int .i64 x3, .int .i64 x4, .int .i64 x5] ∧ Below w.heap.size w wx)
    case first =>
      go_wp2_with (first | (go_at_call 16; (first | (with_reducible refine (p4.out _).mono ?_) | (with_reducible refine (p5.out _).mono ?_) | (with_reducible refine (p6.out _).mono ?_) | (with_reducible refine (p7.out _).mono ?_) | (with_reducible refine (p8.out _).mono ?_) | (with_reducible refine (p9.out _).mono ?_) | (with_reducible refine (p10.out _).mono ?_) | (with_reducible refine (p11.out _).mono ?_) | (with_reducible refine (p12.out _).mono ?_) | (with_reducible refine (p13.out _).mono ?_)); rintro e w' ⟨rfl, rfl⟩))
      all_goals
        go_meet
        exact ⟨_, _, _, _, _, _, (Blk.new' _ _ _ _ (by simp only [World.size_alloc])).drew, ((Blk.new' _ _ _ _ (by simp only [World.size_alloc])).alloc _).drew, (((Blk.new _ _ _).alloc _).alloc _).drew, belowD ((((Below.refl _ _).alloc (Nat.le_refl _) _).alloc (by simp) _).alloc (by simp; omega) _)⟩
    case rest =>
      obtain ⟨o, d, n, m, im, c, ki, kz, kr2, hb⟩ := hcut
      have r5 := kr2.cell 5
      simp at r5
      have HB := Lib.hid hb
      have KI := Lib.hid ki
      have KZ := Lib.hid kz
      clear hb ki kz kr2 kr KR
      have hpos : (x5.tmod 7 > 0) ∨ ¬ (x5.tmod 7 > 0) := by omega
      rcases hpos with hp | hp
      · have c0 := KI.out.cell 0
        have c1 := KI.out.cell 1
        have c2 := KI.out.cell 2
        have c3 := KI.out.cell 3
        have c4 := KI.out.cell 4
        have c5 := KI.out.cell 5
        simp at c0 c1 c2 c3 c4 c5
        go_wp2_with fail
        refine (clean_c ⟨o, d, n, m, im, c⟩ _).mono ?_
        rintro e w2 ⟨j, rfl, hb⟩
        have HB2 := Lib.hid (HB.out.trans (hb.mono HB.out.size))
        have KI2 := Lib.hid (KI.out.only (S := fun _ => False) (Only.of_below hb) id)
        have KZ2 := Lib.hid (KZ.out.only (S := fun _ => False) (Only.of_below hb) id)
        clear hb c0 c1 c2 c3 c4 c5
        have v0 : w2.cell? ⟨w.heap.size + 1 + 1, 0, none⟩ = some (.int .i64 o) := KI2.out.cell 0
        have v1 : w2.cell? ⟨w.heap.size + 1 + 1, 1, none⟩ = some (.int .i64 d) := KI2.out.cell 1
        have v2 : w2.cell? ⟨w.heap.size + 1 + 1, 2, none⟩ = some (.int .i64 n) := KI2.out.cell 2
        have v3 : w2.cell? ⟨w.heap.size + 1 + 1, 3, none⟩ = some (.int .i64 m) := KI2.out.cell 3
        have v4 : w2.cell? ⟨w.heap.size + 1 + 1, 4, none⟩ = some (.int .i64 im) := KI2.out.cell 4
        have v5 : w2.cell? ⟨w.heap.size + 1 + 1, 5, none⟩ = some (.int .i64 c) := KI2.out.cell 5
        have vf0 : w2.frozen? ⟨w.heap.size + 1 + 1, 0, none⟩ = false := KI2.out.frozen 0
        have vf1 : w2.frozen? ⟨w.heap.size + 1 + 1, 1, none⟩ = false := KI2.out.frozen 1
        have vf2 : w2.frozen? ⟨w.heap.size + 1 + 1, 2, none⟩ = false := KI2.out.frozen 2
        have vf3 : w2.frozen? ⟨w.heap.size + 1 + 1, 3, none⟩ = false := KI2.out.frozen 3
        have vf4 : w2.frozen? ⟨w.heap.size + 1 + 1, 4, none⟩ = false := KI2.out.frozen 4
        have vf5 : w2.frozen? ⟨w.heap.size + 1 + 1, 5, none⟩ = false := KI2.out.frozen 5
        have KE : Blk ((((((w2.setCell ⟨w.heap.size + 1 + 1, 0, none⟩ (.int .i64 j.op)).setCell ⟨w.heap.size + 1 + 1, 1, none⟩ (.int .i64 j.d)).setCell ⟨w.heap.size + 1 + 1, 2, none⟩ (.int .i64 j.n)).setCell ⟨w.heap.size + 1 + 1, 3, none⟩ (.int .i64 j.m)).setCell ⟨w.heap.size + 1 + 1, 4, none⟩ (.int .i64 j.imm)).setCell ⟨w.heap.size + 1 + 1, 5, none⟩ (.int .i64 j.cond)) (w.heap.size + 1 + 1) 24 #[.int .i64 j.op, .int .i64 j.d, .int .i64 j.n, .int .i64 j.m, .int .i64 j.imm, .int .i64 j.cond] := ((((((((((((KI2.out).set 0 _)).set 1 _)).set 2 _)).set 3 _)).set 4 _)).set 5 _)
        have KF : Blk ((((((w2.setCell ⟨w.heap.size + 1 + 1, 0, none⟩ (.int .i64 j.op)).setCell ⟨w.heap.size + 1 + 1, 1, none⟩ (.int .i64 j.d)).setCell ⟨w.heap.size + 1 + 1, 2, none⟩ (.int .i64 j.n)).setCell ⟨w.heap.size + 1 + 1, 3, none⟩ (.int .i64 j.m)).setCell ⟨w.heap.size + 1 + 1, 4, none⟩ (.int .i64 j.imm)).setCell ⟨w.heap.size + 1 + 1, 5, none⟩ (.int .i64 j.cond)) (w.heap.size + 1) 24 #[.int .i64 0, .int .i64 0, .int .i64 0, .int .i64 0, .int .i64 0, .int .i64 0] := ((((((KZ2.out.far (p := ⟨w.heap.size + 1 + 1, 0, none⟩) (by simp) (.int .i64 j.op)).far (p := ⟨w.heap.size + 1 + 1, 1, none⟩) (by simp) (.int .i64 j.d)).far (p := ⟨w.heap.size + 1 + 1, 2, none⟩) (by simp) (.int .i64 j.n)).far (p := ⟨w.heap.size + 1 + 1, 3, none⟩) (by simp) (.int .i64 j.m)).far (p := ⟨w.heap.size + 1 + 1, 4, none⟩) (by simp) (.int .i64 j.imm)).far (p := ⟨w.heap.size + 1 + 1, 5, none⟩) (by simp) (.int .i64 j.cond))
        have HE := Lib.hid ((((((((((((HB2.out).setCell (p := ⟨w.heap.size + 1 + 1, 0, none⟩) (by simp; omega) (.int .i64 j.op))).setCell (p := ⟨w.heap.size + 1 + 1, 1, none⟩) (by simp; omega) (.int .i64 j.d))).setCell (p := ⟨w.heap.size + 1 + 1, 2, none⟩) (by simp; omega) (.int .i64 j.n))).setCell (p := ⟨w.heap.size + 1 + 1, 3, none⟩) (by simp; omega) (.int .i64 j.m))).setCell (p := ⟨w.heap.size + 1 + 1, 4, none⟩) (by simp; omega) (.int .i64 j.imm))).setCell (p := ⟨w.heap.size + 1 + 1, 5, none⟩) (by simp; omega) (.int .i64 j.cond))
        have ke := Blk.six KE
        have KE := Lib.hid KE
        have z0 : ((((((w2.setCell ⟨w.heap.size + 1 + 1, 0, none⟩ (.int .i64 j.op)).setCell ⟨w.heap.size + 1 + 1, 1, none⟩ (.int .i64 j.d)).setCell ⟨w.heap.size + 1 + 1, 2, none⟩ (.int .i64 j.n)).setCell ⟨w.heap.size + 1 + 1, 3, none⟩ (.int .i64 j.m)).setCell ⟨w.heap.size + 1 + 1, 4, none⟩ (.int .i64 j.imm)).setCell ⟨w.heap.size + 1 + 1, 5, none⟩ (.int .i64 j.cond)).cell? ⟨w.heap.size + 1, 0, none⟩ = some (.int .i64 0) := KF.cell 0
        have z1 : ((((((w2.setCell ⟨w.heap.size + 1 + 1, 0, none⟩ (.int .i64 j.op)).setCell ⟨w.heap.size + 1 + 1, 1, none⟩ (.int .i64 j.d)).setCell ⟨w.heap.size + 1 + 1, 2, none⟩ (.int .i64 j.n)).setCell ⟨w.heap.size + 1 + 1, 3, none⟩ (.int .i64 j.m)).setCell ⟨w.heap.size + 1 + 1, 4, none⟩ (.int .i64 j.imm)).setCell ⟨w.heap.size + 1 + 1, 5, none⟩ (.int .i64 j.cond)).cell? ⟨w.heap.size + 1, 1, none⟩ = some (.int .i64 0) := KF.cell 1
        have z2 : ((((((w2.setCell ⟨w.heap.size + 1 + 1, 0, none⟩ (.int .i64 j.op)).setCell ⟨w.heap.size + 1 + 1, 1, none⟩ (.int .i64 j.d)).setCell ⟨w.heap.size + 1 + 1, 2, none⟩ (.int .i64 j.n)).setCell ⟨w.heap.size + 1 + 1, 3, none⟩ (.int .i64 j.m)).setCell ⟨w.heap.size + 1 + 1, 4, none⟩ (.int .i64 j.imm)).setCell ⟨w.heap.size + 1 + 1, 5, none⟩ (.int .i64 j.cond)).cell? ⟨w.heap.size + 1, 2, none⟩ = some (.int .i64 0) := KF.cell 2
        have z3 : ((((((w2.setCell ⟨w.heap.size + 1 + 1, 0, none⟩ (.int .i64 j.op)).setCell ⟨w.heap.size + 1 + 1, 1, none⟩ (.int .i64 j.d)).setCell ⟨w.heap.size + 1 + 1, 2, none⟩ (.int .i64 j.n)).setCell ⟨w.heap.size + 1 + 1, 3, none⟩ (.int .i64 j.m)).setCell ⟨w.heap.size + 1 + 1, 4, none⟩ (.int .i64 j.imm)).setCell ⟨w.heap.size + 1 + 1, 5, none⟩ (.int .i64 j.cond)).cell? ⟨w.heap.size + 1, 3, none⟩ = some (.int .i64 0) := KF.cell 3
        have z4 : ((((((w2.setCell ⟨w.heap.size + 1 + 1, 0, none⟩ (.int .i64 j.op)).setCell ⟨w.heap.size + 1 + 1, 1, none⟩ (.int .i64 j.d)).setCell ⟨w.heap.size + 1 + 1, 2, none⟩ (.int .i64 j.n)).setCell ⟨w.heap.size + 1 + 1, 3, none⟩ (.int .i64 j.m)).setCell ⟨w.heap.size + 1 + 1, 4, none⟩ (.int .i64 j.imm)).setCell ⟨w.heap.size + 1 + 1, 5, none⟩ (.int .i64 j.cond)).cell? ⟨w.heap.size + 1, 4, none⟩ = some (.int .i64 0) := KF.cell 4
        have z5 : ((((((w2.setCell ⟨w.heap.size + 1 + 1, 0, none⟩ (.int .i64 j.op)).setCell ⟨w.heap.size + 1 + 1, 1, none⟩ (.int .i64 j.d)).setCell ⟨w.heap.size + 1 + 1, 2, none⟩ (.int .i64 j.n)).setCell ⟨w.heap.size + 1 + 1, 3, none⟩ (.int .i64 j.m)).setCell ⟨w.heap.size + 1 + 1, 4, none⟩ (.int .i64 j.imm)).setCell ⟨w.heap.size + 1 + 1, 5, none⟩ (.int .i64 j.cond)).cell? ⟨w.heap.size + 1, 5, none⟩ = some (.int .i64 0) := KF.cell 5
        have zf0 : ((((((w2.setCell ⟨w.heap.size + 1 + 1, 0, none⟩ (.int .i64 j.op)).setCell ⟨w.heap.size + 1 + 1, 1, none⟩ (.int .i64 j.d)).setCell ⟨w.heap.size + 1 + 1, 2, none⟩ (.int .i64 j.n)).setCell ⟨w.heap.size + 1 + 1, 3, none⟩ (.int .i64 j.m)).setCell ⟨w.heap.size + 1 + 1, 4, none⟩ (.int .i64 j.imm)).setCell ⟨w.heap.size + 1 + 1, 5, none⟩ (.int .i64 j.cond)).frozen? ⟨w.heap.size + 1, 0, none⟩ = false := KF.frozen 0
        have zf1 : ((((((w2.setCell ⟨w.heap.size + 1 + 1, 0, none⟩ (.int .i64 j.op)).setCell ⟨w.heap.size + 1 + 1, 1, none⟩ (.int .i64 j.d)).setCell ⟨w.heap.size + 1 + 1, 2, none⟩ (.int .i64 j.n)).setCell ⟨w.heap.size + 1 + 1, 3, none⟩ (.int .i64 j.m)).setCell ⟨w.heap.size + 1 + 1, 4, none⟩ (.int .i64 j.imm)).setCell ⟨w.heap.size + 1 + 1, 5, none⟩ (.int .i64 j.cond)).frozen? ⟨w.heap.size + 1, 1, none⟩ = false := KF.frozen 1
        have zf2 : ((((((w2.setCell ⟨w.heap.size + 1 + 1, 0, none⟩ (.int .i64 j.op)).setCell ⟨w.heap.size + 1 + 1, 1, none⟩ (.int .i64 j.d)).setCell ⟨w.heap.size + 1 + 1, 2, none⟩ (.int .i64 j.n)).setCell ⟨w.heap.size + 1 + 1, 3, none⟩ (.int .i64 j.m)).setCell ⟨w.heap.size + 1 + 1, 4, none⟩ (.int .i64 j.imm)).setCell ⟨w.heap.size + 1 + 1, 5, none⟩ (.int .i64 j.cond)).frozen? ⟨w.heap.size + 1, 2, none⟩ = false := KF.frozen 2
        have zf3 : ((((((w2.setCell ⟨w.heap.size + 1 + 1, 0, none⟩ (.int .i64 j.op)).setCell ⟨w.heap.size + 1 + 1, 1, none⟩ (.int .i64 j.d)).setCell ⟨w.heap.size + 1 + 1, 2, none⟩ (.int .i64 j.n)).setCell ⟨w.heap.size + 1 + 1, 3, none⟩ (.int .i64 j.m)).setCell ⟨w.heap.size + 1 + 1, 4, none⟩ (.int .i64 j.imm)).setCell ⟨w.heap.size + 1 + 1, 5, none⟩ (.int .i64 j.cond)).frozen? ⟨w.heap.size + 1, 3, none⟩ = false := KF.frozen 3
        have zf4 : ((((((w2.setCell ⟨w.heap.size + 1 + 1, 0, none⟩ (.int .i64 j.op)).setCell ⟨w.heap.size + 1 + 1, 1, none⟩ (.int .i64 j.d)).setCell ⟨w.heap.size + 1 + 1, 2, none⟩ (.int .i64 j.n)).setCell ⟨w.heap.size + 1 + 1, 3, none⟩ (.int .i64 j.m)).setCell ⟨w.heap.size + 1 + 1, 4, none⟩ (.int .i64 j.imm)).setCell ⟨w.heap.size + 1 + 1, 5, none⟩ (.int .i64 j.cond)).frozen? ⟨w.heap.size + 1, 4, none⟩ = false := KF.frozen 4
        have zf5 : ((((((w2.setCell ⟨w.heap.size + 1 + 1, 0, none⟩ (.int .i64 j.op)).setCell ⟨w.heap.size + 1 + 1, 1, none⟩ (.int .i64 j.d)).setCell ⟨w.heap.size + 1 + 1, 2, none⟩ (.int .i64 j.n)).setCell ⟨w.heap.size + 1 + 1, 3, none⟩ (.int .i64 j.m)).setCell ⟨w.heap.size + 1 + 1, 4, none⟩ (.int .i64 j.imm)).setCell ⟨w.heap.size + 1 + 1, 5, none⟩ (.int .i64 j.cond)).frozen? ⟨w.heap.size + 1, 5, none⟩ = false := KF.frozen 5
        have KF := Lib.hid KF
        have KG : Blk ((((((((((((w2.setCell ⟨w.heap.size + 1 + 1, 0, none⟩ (.int .i64 j.op)).setCell ⟨w.heap.size + 1 + 1, 1, none⟩ (.int .i64 j.d)).setCell ⟨w.heap.size + 1 + 1, 2, none⟩ (.int .i64 j.n)).setCell ⟨w.heap.size + 1 + 1, 3, none⟩ (.int .i64 j.m)).setCell ⟨w.heap.size + 1 + 1, 4, none⟩ (.int .i64 j.imm)).setCell ⟨w.heap.size + 1 + 1, 5, none⟩ (.int .i64 j.cond)).setCell ⟨w.heap.size + 1, 0, none⟩ (.int .i64 j.op)).setCell ⟨w.heap.size + 1, 1, none⟩ (.int .i64 j.d)).setCell ⟨w.heap.size + 1, 2, none⟩ (.int .i64 j.n)).setCell ⟨w.heap.size + 1, 3, none⟩ (.int .i64 j.m)).setCell ⟨w.heap.size + 1, 4, none⟩ (.int .i64 j.imm)).setCell ⟨w.heap.size + 1, 5, none⟩ (.int .i64 j.cond)) (w.heap.size + 1) 24 #[.int .i64 j.op, .int .i64 j.d, .int .i64 j.n, .int .i64 j.m, .int .i64 j.imm, .int .i64 j.cond] := ((((((((((((KF.out).set 0 _)).set 1 _)).set 2 _)).set 3 _)).set 4 _)).set 5 _)
        have HG := Lib.hid ((((((((((((HE.out).setCell (p := ⟨w.heap.size + 1, 0, none⟩) (Nat.le_succ _) (.int .i64 j.op))).setCell (p := ⟨w.heap.size + 1, 1, none⟩) (Nat.le_succ _) (.int .i64 j.d))).setCell (p := ⟨w.heap.size + 1, 2, none⟩) (Nat.le_succ _) (.int .i64 j.n))).setCell (p := ⟨w.heap.size + 1, 3, none⟩) (Nat.le_succ _) (.int .i64 j.m))).setCell (p := ⟨w.heap.size + 1, 4, none⟩) (Nat.le_succ _) (.int .i64 j.imm))).setCell (p := ⟨w.heap.size + 1, 5, none⟩) (Nat.le_succ _) (.int .i64 j.cond))
        have KG := Lib.hid KG
        go_wp2_with fail
        try simp only [Exit.inBlock, Exit.then]
        refine bodyPost_ret (results_cell_row rfl _ _ (w.heap.size + 1) 24 #[.int .i64 j.op, .int .i64 j.d, .int .i64 j.n, .int .i64 j.m, .int .i64 j.imm, .int .i64 j.cond] (0, 0) _ (by rfl) KG.out Try.underlying24 rfl (by rfl)) rfl ?_
        exact ⟨⟨j.op, j.d, j.n, j.m, j.imm, j.cond⟩, rfl, HG.out⟩
      · have c0 := KI.out.cell 0
        have c1 := KI.out.cell 1
        have c2 := KI.out.cell 2
        have c3 := KI.out.cell 3
        have c4 := KI.out.cell 4
        have c5 := KI.out.cell 5
        simp at c0 c1 c2 c3 c4 c5
        have z0 : wc.cell? ⟨w.heap.size + 1, 0, none⟩ = some (.int .i64 0) := KZ.out.cell 0
        have z1 : wc.cell? ⟨w.heap.size + 1, 1, none⟩ = some (.int .i64 0) := KZ.out.cell 1
        have z2 : wc.cell? ⟨w.heap.size + 1, 2, none⟩ = some (.int .i64 0) := KZ.out.cell 2
        have z3 : wc.cell? ⟨w.heap.size + 1, 3, none⟩ = some (.int .i64 0) := KZ.out.cell 3
        have z4 : wc.cell? ⟨w.heap.size + 1, 4, none⟩ = some (.int .i64 0) := KZ.out.cell 4
        have z5 : wc.cell? ⟨w.heap.size + 1, 5, none⟩ = some (.int .i64 0) := KZ.out.cell 5
        have zf0 : wc.frozen? ⟨w.heap.size + 1, 0, none⟩ = false := KZ.out.frozen 0
        have zf1 : wc.frozen? ⟨w.heap.size + 1, 1, none⟩ = false := KZ.out.frozen 1
        have zf2 : wc.frozen? ⟨w.heap.size + 1, 2, none⟩ = false := KZ.out.frozen 2
        have zf3 : wc.frozen? ⟨w.heap.size + 1, 3, none⟩ = false := KZ.out.frozen 3
        have zf4 : wc.frozen? ⟨w.heap.size + 1, 4, none⟩ = false := KZ.out.frozen 4
        have zf5 : wc.frozen? ⟨w.heap.size + 1, 5, none⟩ = false := KZ.out.frozen 5
        have KE : Blk ((((((wc.setCell ⟨w.heap.size + 1, 0, none⟩ (.int .i64 o)).setCell ⟨w.heap.size + 1, 1, none⟩ (.int .i64 d)).setCell ⟨w.heap.size + 1, 2, none⟩ (.int .i64 n)).setCell ⟨w.heap.size + 1, 3, none⟩ (.int .i64 m)).setCell ⟨w.heap.size + 1, 4, none⟩ (.int .i64 im)).setCell ⟨w.heap.size + 1, 5, none⟩ (.int .i64 c)) (w.heap.size + 1) 24 #[.int .i64 o, .int .i64 d, .int .i64 n, .int .i64 m, .int .i64 im, .int .i64 c] := ((((((((((((KZ.out).set 0 _)).set 1 _)).set 2 _)).set 3 _)).set 4 _)).set 5 _)
        have HE := Lib.hid ((((((((((((HB.out).setCell (p := ⟨w.heap.size + 1, 0, none⟩) (Nat.le_succ _) (.int .i64 o))).setCell (p := ⟨w.heap.size + 1, 1, none⟩) (Nat.le_succ _) (.int .i64 d))).setCell (p := ⟨w.heap.size + 1, 2, none⟩) (Nat.le_succ _) (.int .i64 n))).setCell (p := ⟨w.heap.size + 1, 3, none⟩) (Nat.le_succ _) (.int .i64 m))).setCell (p := ⟨w.heap.size + 1, 4, none⟩) (Nat.le_succ _) (.int .i64 im))).setCell (p := ⟨w.heap.size + 1, 5, none⟩) (Nat.le_succ _) (.int .i64 c))
        have KE := Lib.hid KE
        go_wp2_with fail
        try simp only [Exit.inBlock, Exit.then]
        refine bodyPost_ret (results_cell_row rfl _ _ (w.heap.size + 1) 24 #[.int .i64 o, .int .i64 d, .int .i64 n, .int .i64 m, .int .i64 im, .int .i64 c] (0, 0) _ (by rfl) KE.out Try.underlying24 rfl (by rfl)) rfl ?_
        exact ⟨⟨o, d, n, m, im, c⟩, rfl, HE.out⟩
end Go.Proofs.Ytpcjkllhieiiiaa
