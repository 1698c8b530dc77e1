/- ThumbApart. -/
import Derived.Test.YtpcjkllhieiiiaaThW
import Derived.Deep.DeepCutAuto
import Derived.Deep.CutBlock
import Derived.Deep.RegionHeld3
import Derived.BigGuardPart
namespace Go.Proofs.Ytpcjkllhieiiiaa
open Go.RowKit On Th
set_option maxHeartbeats 16000000 in
set_option maxRecDepth 100000 in
theorem thumbApart_top (v0 v1 v2 v3 : Value) (w : World) (u0 : Vw.Arg Try.prog w 23 v0) (u1 : Vw.Arg Try.prog w 23 v1) (u2 : Vw.Arg Try.prog w 4 v2) (u3 : Vw.Arg Try.prog w 3 v3) :
    Calls Try.prog 4 #[v0, v1, v2, v3] w fun e w' => e = .returned (.bool true) ∧ Below w.heap.size w w' := by
  obtain ⟨x0, x1, x2, x3, x4, x5, rfl⟩ := arg_raw u0
  obtain ⟨z0, z1, z2, z3, z4, z5, rfl⟩ := arg_raw u1
  obtain ⟨nr, rfl⟩ := Vw.Arg.bool Try.underlying4 u2
  obtain ⟨tn, rfl, _⟩ := Vw.Arg.int Try.underlying3 u3
  clear u0 u1 u2 u3
  obtain ⟨tq, htq⟩ : ∃ q, IntKind.i64.wrap (tn.tdiv 4) = q := ⟨_, rfl⟩
  have htq2 : wrap64 (tn.tdiv 4) = tq := by unfold wrap64; rw [← htq, IntKind.wrap_i64]
  obtain ⟨y0, hy0⟩ : ∃ y, tn % 4 = y := ⟨_, rfl⟩
  have p0 : Hid (∀ w, Calls Try.prog 16 #[.int .i64 tn, .int .i64 4] w fun e w' => e = .returned (.int .i64 y0) ∧ w = w') := fun w => (pickN tn 4 (by decide) (by decide) w).mono (fun _ _ h => ⟨by rw [h.1, hy0], h.2⟩)
  have s0 : Hid (∀ w, Calls Try.prog 16 #[.int .i64 tn, .int .i64 4] w fun e w' => e = .returned (.int .i64 y0) ∧ w' = w) := fun w => (p0.out w).mono (fun _ _ h => ⟨h.1, h.2.symm⟩)
  obtain ⟨y1, hy1⟩ : ∃ y, tq % 8 = y := ⟨_, rfl⟩
  have p1 : Hid (∀ w, Calls Try.prog 16 #[.int .i64 tq, .int .i64 8] w fun e w' => e = .returned (.int .i64 y1) ∧ w = w') := fun w => (pickN tq 8 (by decide) (by decide) w).mono (fun _ _ h => ⟨by rw [h.1, hy1], h.2⟩)
  have s1 : Hid (∀ w, Calls Try.prog 16 #[.int .i64 tq, .int .i64 8] w fun e w' => e = .returned (.int .i64 y1) ∧ w' = w) := fun w => (p1.out w).mono (fun _ _ h => ⟨h.1, h.2.symm⟩)
  obtain ⟨y2, hy2⟩ : ∃ y, tq % 9 = y := ⟨_, rfl⟩
  have p2 : Hid (∀ w, Calls Try.prog 16 #[.int .i64 tq, .int .i64 9] w fun e w' => e = .returned (.int .i64 y2) ∧ w = w') := fun w => (pickN tq 9 (by decide) (by decide) w).mono (fun _ _ h => ⟨by rw [h.1, hy2], h.2⟩)
  have s2 : Hid (∀ w, Calls Try.prog 16 #[.int .i64 tq, .int .i64 9] w fun e w' => e = .returned (.int .i64 y2) ∧ w' = w) := fun w => (p2.out w).mono (fun _ _ h => ⟨h.1, h.2.symm⟩)
  obtain ⟨y3, hy3⟩ : ∃ y, tq % 45 = y := ⟨_, rfl⟩
  have p3 : Hid (∀ w, Calls Try.prog 16 #[.int .i64 tq, .int .i64 45] w fun e w' => e = .returned (.int .i64 y3) ∧ w = w') := fun w => (pickN tq 45 (by decide) (by decide) w).mono (fun _ _ h => ⟨by rw [h.1, hy3], h.2⟩)
  have s3 : Hid (∀ w, Calls Try.prog 16 #[.int .i64 tq, .int .i64 45] w fun e w' => e = .returned (.int .i64 y3) ∧ w' = w) := fun w => (p3.out w).mono (fun _ _ h => ⟨h.1, h.2.symm⟩)
  have hyr : y0 = 0 ∨ y0 = 1 ∨ y0 = 2 ∨ y0 = 3 := by omega
  clear hy0 hy1 hy2 hy3
  have HB0 : Hid (Below w.heap.size w ((w.alloc (.cells #[.int .i64 x0, .int .i64 x1, .int .i64 x2, .int .i64 x3, .int .i64 x4, .int .i64 x5] 23)).alloc (.cells #[.int .i64 z0, .int .i64 z1, .int .i64 z2, .int .i64 z3, .int .i64 z4, .int .i64 z5] 23))) := ((Below.refl _ _).alloc (Nat.le_refl _) _).alloc (by simp) _
  have KY : Hid (Blk ((w.alloc (.cells #[.int .i64 x0, .int .i64 x1, .int .i64 x2, .int .i64 x3, .int .i64 x4, .int .i64 x5] 23)).alloc (.cells #[.int .i64 z0, .int .i64 z1, .int .i64 z2, .int .i64 z3, .int .i64 z4, .int .i64 z5] 23)) (w.heap.size + 1) 23 #[.int .i64 z0, .int .i64 z1, .int .i64 z2, .int .i64 z3, .int .i64 z4, .int .i64 z5]) := Blk.new' _ _ _ _ (by simp only [World.size_alloc])
  go_enter Try.func4, Try.ntmps4
  go_wp2_with fail
  refine (ins_c x0 x1 x2 x3 x4 x5 _).mono ?_
  rintro e w1 ⟨a, rfl, hb⟩
  have H1 := Lib.hid ((HB0.out.trans (hb.mono HB0.out.size)).alloc (by have := HB0.out.size; have := hb.size; omega) (.cells #[.int .i64 a.op, .int .i64 a.d, .int .i64 a.n, .int .i64 a.m, .int .i64 a.imm, .int .i64 a.cond] 24))
  have ky := (KY.out.only (S := fun _ => False) (Only.of_below hb) id).alloc (.cells #[.int .i64 a.op, .int .i64 a.d, .int .i64 a.n, .int .i64 a.m, .int .i64 a.imm, .int .i64 a.cond] 24)
  have KA := Lib.hid (Blk.new w1 24 #[.int .i64 a.op, .int .i64 a.d, .int .i64 a.n, .int .i64 a.m, .int .i64 a.imm, .int .i64 a.cond])
  have r0 := ky.cell 0
  have r1 := ky.cell 1
  have r2 := ky.cell 2
  have r3 := ky.cell 3
  have r4 := ky.cell 4
  have r5 := ky.cell 5
  simp at r0 r1 r2 r3 r4 r5
  have hw01 := Lib.hid ((HB0.out.trans (hb.mono HB0.out.size)).size)
  clear hb ky HB0 KY
  go_wp2_with fail
  refine (ins_c z0 z1 z2 z3 z4 z5 _).mono ?_
  rintro e w2 ⟨b, rfl, hb⟩
  have H2 := Lib.hid ((H1.out.trans (hb.mono H1.out.size)).alloc (by have := H1.out.size; have := hb.size; omega) (.cells #[.int .i64 b.op, .int .i64 b.d, .int .i64 b.n, .int .i64 b.m, .int .i64 b.imm, .int .i64 b.cond] 24))
  have ka := (KA.out.only (S := fun _ => False) (Only.of_below hb) id).alloc (.cells #[.int .i64 b.op, .int .i64 b.d, .int .i64 b.n, .int .i64 b.m, .int .i64 b.imm, .int .i64 b.cond] 24)
  have hw12 : Hid (w1.heap.size < w2.heap.size) := (KA.out.only (S := fun _ => False) (Only.of_below hb) id).lt
  have KAw := Lib.hid (KA.out.only (S := fun _ => False) (Only.of_below hb) id)
  have HBw := Lib.hid (H1.out.trans (hb.mono H1.out.size))
  have a0 := ka.cell 0
  have a1 := ka.cell 1
  have a2 := ka.cell 2
  have a3 := ka.cell 3
  have a4 := ka.cell 4
  have a5 := ka.cell 5
  simp at a0 a1 a2 a3 a4 a5
  have KA2 := Lib.hid ka
  clear hb ka H1 KA r0 r1 r2 r3 r4 r5
  go_upto_if 19 with (fail)
  go_cut [] (fun wx => ∃ j0 j1 j2 j3 j4 j5 : Int, Blk wx w2.heap.size 24 #[.int .i64 j0, .int .i64 j1, .int .i64 j2, .int .i64 j3, .int .i64 j4, .int .i64 j5] ∧ Blk wx w1.heap.size 24 #[.int .i64 a.op, .int .i64 a.d, .int .i64 a.n, .int .i64 a.m, .int .i64 a.imm, .int .i64 a.cond] ∧ Below w.heap.size w wx)
  case first =>
    cases nr
    · go_wp2_with fail
      go_meet
      exact ⟨_, _, _, _, _, _, Blk.new _ _ _, KAw.out.alloc _, HBw.out.alloc HBw.out.size _⟩
    · rcases hyr with rfl | rfl | rfl | rfl
      · go_wp2_with (first | (go_at_call 16; (first | (with_reducible refine (p0.out _).mono ?_) | (with_reducible refine (p1.out _).mono ?_) | (with_reducible refine (p3.out _).mono ?_)); rintro e w' ⟨rfl, rfl⟩))
        go_meet
        exact ⟨_, _, _, _, _, _, Blk.new _ _ _, KAw.out.alloc _, HBw.out.alloc HBw.out.size _⟩
      · go_wp2_with (first | (go_at_call 16; (first | (with_reducible refine (p0.out _).mono ?_) | (with_reducible refine (p1.out _).mono ?_) | (with_reducible refine (p3.out _).mono ?_)); rintro e w' ⟨rfl, rfl⟩))
        go_meet
        exact ⟨_, _, _, _, _, _, Blk.new _ _ _, KAw.out.alloc _, HBw.out.alloc HBw.out.size _⟩
      · go_wp2_with (first | (go_at_call 16; (first | (with_reducible refine (p0.out _).mono ?_) | (with_reducible refine (p1.out _).mono ?_) | (with_reducible refine (p3.out _).mono ?_)); rintro e w' ⟨rfl, rfl⟩))
        refine wp_region_still_tail 8 (by kernel_rfl) (by kernel_rfl) ?_
        simp only [List.take_succ_cons, List.take_zero, List.drop_succ_cons, List.drop_zero]
        change wpStill _ _ (World.drew _) _ _ _
        repeat (first | still_step | (refine wpStill_step (fun K hK => ?_); go_simp; (with_reducible refine ⟨_, s2.out _, hK _ ?_⟩)))
        refine wpStill_nil ?_
        change wpList _ _ _ _ _ (World.drew _)
        go_wp2_with fail
        go_meet
        exact ⟨_, _, _, _, _, _, (Blk.new _ _ _).drew, (KAw.out.alloc _).drew, belowD (HBw.out.alloc HBw.out.size _)⟩
      · go_wp2_with (first | (go_at_call 16; (first | (with_reducible refine (p0.out _).mono ?_) | (with_reducible refine (p1.out _).mono ?_) | (with_reducible refine (p3.out _).mono ?_)); rintro e w' ⟨rfl, rfl⟩))
        go_meet
        exact ⟨_, _, _, _, _, _, Blk.new _ _ _, KAw.out.alloc _, HBw.out.alloc HBw.out.size _⟩
  case rest =>
    clear a0 a1 a2 a3 a4 a5
    obtain ⟨j0, j1, j2, j3, j4, j5, kj, ka, hb⟩ := hcut
    have hcut : ∃ j : Ins, Blk wc w2.heap.size 24 #[.int .i64 j.op, .int .i64 j.d, .int .i64 j.n, .int .i64 j.m, .int .i64 j.imm, .int .i64 j.cond] := ⟨⟨j0, j1, j2, j3, j4, j5⟩, kj⟩
    clear kj
    obtain ⟨j, kj⟩ := hcut
    clear j0 j1 j2 j3 j4 j5
    have HB := Lib.hid hb
    have KJ := Lib.hid kj
    have KA := Lib.hid ka
    have a0 := KA.out.cell 0
    have a1 := KA.out.cell 1
    have a2 := KA.out.cell 2
    have a3 := KA.out.cell 3
    have a4 := KA.out.cell 4
    have a5 := KA.out.cell 5
    simp at a0 a1 a2 a3 a4 a5
    clear hb kj ka KA2 KAw HBw H2
    go_wp2_with fail
    refine (encode_c a _).mono ?_
    intro e w3 h
    cases hra : rightS a
    · rw [hra, if_neg (by simp)] at h
      obtain ⟨rfl, hb⟩ := h
      have HB3 := Lib.hid (HB.out.trans (hb.mono HB.out.size))
      have KJ3 := Lib.hid (KJ.out.only (S := fun _ => False) (Only.of_below hb) id)
      clear hb a0 a1 a2 a3 a4 a5
      have j0 := KJ3.out.cell 0
      have j1 := KJ3.out.cell 1
      have j2 := KJ3.out.cell 2
      have j3 := KJ3.out.cell 3
      have j4 := KJ3.out.cell 4
      have j5 := KJ3.out.cell 5
      simp at j0 j1 j2 j3 j4 j5
      go_wp2_with fail
      refine (encode_c j _).mono ?_
      intro e w4 h
      have h : ∃ s, ∃ k : Int, e = .returned (.tuple #[s, .int .i64 k]) ∧ Below w3.heap.size w3 w4 := by
        by_cases hr : rightS j = true
        · rw [if_pos hr] at h; obtain ⟨g, h1, _, h2⟩ := h; exact ⟨_, _, h1, h2⟩
        · rw [if_neg hr] at h; exact ⟨_, _, h.1, h.2⟩
      obtain ⟨s, k, rfl, hb⟩ := h
      have HB4 := Lib.hid (HB3.out.trans (hb.mono HB3.out.size))
      clear hb j0 j1 j2 j3 j4 j5
      go_wp2_with fail
      refine (known_c _).mono ?_
      rintro e w5 ⟨rfl, hb⟩
      have HB5 := Lib.hid (HB4.out.trans (hb.mono HB4.out.size))
      clear hb
      go_wp2_with fail
      refine (known_c _).mono ?_
      rintro e w6 ⟨rfl, hb⟩
      have HB6 := Lib.hid (HB5.out.trans (hb.mono HB5.out.size))
      clear hb
      go_wp2_with fail
      go_ret
      exact ⟨rfl, HB6.out⟩
    · rw [hra, if_pos rfl] at h
      obtain ⟨s1, rfl, hs1, hb⟩ := h.hw (enc_range a hra).1
      have HB3 := Lib.hid (HB.out.trans (hb.mono HB.out.size))
      have KJ3 := Lib.hid (KJ.out.only (S := fun _ => False) (Only.of_below hb) id)
      have KA3 := Lib.hid (KA.out.only (S := fun _ => False) (Only.of_below hb) id)
      have HS1 := Lib.hid hs1
      clear h hb hs1 a0 a1 a2 a3 a4 a5
      have j0 := KJ3.out.cell 0
      have j1 := KJ3.out.cell 1
      have j2 := KJ3.out.cell 2
      have j3 := KJ3.out.cell 3
      have j4 := KJ3.out.cell 4
      have j5 := KJ3.out.cell 5
      simp at j0 j1 j2 j3 j4 j5
      go_wp2_with fail
      refine (encode_c j _).mono ?_
      intro e w4 h
      cases hrj : rightS j
      · rw [hrj, if_neg (by simp)] at h
        obtain ⟨rfl, hb⟩ := h
        have HB4 := Lib.hid (HB3.out.trans (hb.mono HB3.out.size))
        clear hb j0 j1 j2 j3 j4 j5
        go_wp2_with fail
        refine (known_c _).mono ?_
        rintro e w5 ⟨rfl, hb⟩
        have HB5 := Lib.hid (HB4.out.trans (hb.mono HB4.out.size))
        clear hb
        go_wp2_with fail
        refine (known_c _).mono ?_
        rintro e w6 ⟨rfl, hb⟩
        have HB6 := Lib.hid (HB5.out.trans (hb.mono HB5.out.size))
        clear hb
        go_wp2_with fail
        go_ret
        exact ⟨rfl, HB6.out⟩
      · rw [hrj, if_pos rfl] at h
        obtain ⟨s2, rfl, hs2, hb⟩ := h.hw (enc_range j hrj).1
        have HB4 := Lib.hid (HB3.out.trans (hb.mono HB3.out.size))
        have KJ4 := Lib.hid (KJ3.out.only (S := fun _ => False) (Only.of_below hb) id)
        have KA4 := Lib.hid (KA3.out.only (S := fun _ => False) (Only.of_below hb) id)
        have HS3 := Lib.hid (HS1.out.below hb)
        have HS4 := Lib.hid hs2
        clear h hb hs2 j0 j1 j2 j3 j4 j5
        go_wp2_with fail
        refine (known_c _).mono ?_
        rintro e w5 ⟨rfl, hb⟩
        have HB5 := Lib.hid (HB4.out.trans (hb.mono HB4.out.size))
        have kf := And.intro (Blk.six (KA4.out.only (S := fun _ => False) (Only.of_below hb) id)) (Blk.six (KJ4.out.only (S := fun _ => False) (Only.of_below hb) id))
        have KJ5 := Lib.hid (KJ4.out.only (S := fun _ => False) (Only.of_below hb) id)
        have KA5 := Lib.hid (KA4.out.only (S := fun _ => False) (Only.of_below hb) id)
        have HS5 := Lib.hid (HS3.out.below hb)
        have HS6 := Lib.hid (HS4.out.below hb)
        have HA := Lib.hid hra
        have HJ := Lib.hid hrj
        clear hb hra hrj
        obtain ⟨a0, a1, a2, a3, a4, a5⟩ := a
        obtain ⟨j0, j1, j2, j3, j4, j5⟩ := j
        have hc : (a0 ≠ j0) ∨ (a0 = j0 ∧ a1 ≠ j1) ∨ (a0 = j0 ∧ a1 = j1 ∧ a2 ≠ j2) ∨ (a0 = j0 ∧ a1 = j1 ∧ a2 = j2 ∧ a3 ≠ j3) ∨ (a0 = j0 ∧ a1 = j1 ∧ a2 = j2 ∧ a3 = j3 ∧ a4 ≠ j4) ∨ (a0 = j0 ∧ a1 = j1 ∧ a2 = j2 ∧ a3 = j3 ∧ a4 = j4 ∧ a5 ≠ j5) ∨ (a0 = j0 ∧ a1 = j1 ∧ a2 = j2 ∧ a3 = j3 ∧ a4 = j4 ∧ a5 = j5) := by omega
        obtain ⟨dv, hdv⟩ : ∃ d, decide (encL ⟨a0, a1, a2, a3, a4, a5⟩ = encL ⟨j0, j1, j2, j3, j4, j5⟩) = d := ⟨_, rfl⟩
        have HD := Lib.hid hdv
        have hdt : Hid ((⟨a0, a1, a2, a3, a4, a5⟩ : Ins) = ⟨j0, j1, j2, j3, j4, j5⟩ → dv = true) := fun e => by rw [← HD.out, e]; simp
        have hdf : Hid (¬ (⟨a0, a1, a2, a3, a4, a5⟩ : Ins) = ⟨j0, j1, j2, j3, j4, j5⟩ → dv = false) := fun e => by rw [← HD.out, decide_eq_false_iff_not]; exact fun e' => e (enc_inj HA.out HJ.out e')
        clear hdv
        dsimp only at kf
        have kg := kf
        rcases hc with hne | ⟨rfl, hne⟩ | ⟨rfl, rfl, hne⟩ | ⟨rfl, rfl, rfl, hne⟩ | ⟨rfl, rfl, rfl, rfl, hne⟩ | ⟨rfl, rfl, rfl, rfl, rfl, hne⟩ | ⟨rfl, rfl, rfl, rfl, rfl, rfl⟩
        · have hb : (a0 == j0) = false := by simpa using hne
          obtain rfl : dv = false := hdf.out (by intro e; simp at e; omega)
          clear hne
          go_wp2_with fail
          go_region_held3 (fun w' => (w'.cell? ⟨w1.heap.size, 0, none⟩ = some (.int .i64 a0) ∧ w'.cell? ⟨w1.heap.size, 1, none⟩ = some (.int .i64 a1) ∧ w'.cell? ⟨w1.heap.size, 2, none⟩ = some (.int .i64 a2) ∧ w'.cell? ⟨w1.heap.size, 3, none⟩ = some (.int .i64 a3) ∧ w'.cell? ⟨w1.heap.size, 4, none⟩ = some (.int .i64 a4) ∧ w'.cell? ⟨w1.heap.size, 5, none⟩ = some (.int .i64 a5)) ∧ (w'.cell? ⟨w2.heap.size, 0, none⟩ = some (.int .i64 j0) ∧ w'.cell? ⟨w2.heap.size, 1, none⟩ = some (.int .i64 j1) ∧ w'.cell? ⟨w2.heap.size, 2, none⟩ = some (.int .i64 j2) ∧ w'.cell? ⟨w2.heap.size, 3, none⟩ = some (.int .i64 j3) ∧ w'.cell? ⟨w2.heap.size, 4, none⟩ = some (.int .i64 j4) ∧ w'.cell? ⟨w2.heap.size, 5, none⟩ = some (.int .i64 j5))) (first | (with_reducible exact kg) | exact kf)
          (first | (go_at_call 14; refine (halves_c (HS5.out.below (belowD (Below.refl _ _))) (HS6.out.below (belowD (Below.refl _ _))) (by have := (enc_range _ HA.out).2; omega)).mono ?_; rintro e w6 ⟨rfl, hb6⟩; rw [HD.out]; have kg := And.intro (Blk.six (KA5.out.drew.only (S := fun _ => False) (Only.of_below hb6) id)) (Blk.six (KJ5.out.drew.only (S := fun _ => False) (Only.of_below hb6) id))))
          go_wp2_with fail
          go_ret
          exact ⟨rfl, HB5.out.trans ((belowD (Below.refl _ _)).trans (hb6.mono (Nat.le_refl _)) |>.mono HB5.out.size)⟩
        · have hb : (a1 == j1) = false := by simpa using hne
          obtain rfl : dv = false := hdf.out (by intro e; simp at e; omega)
          clear hne
          go_wp2_with fail
          go_region_held3 (fun w' => (w'.cell? ⟨w1.heap.size, 0, none⟩ = some (.int .i64 a0) ∧ w'.cell? ⟨w1.heap.size, 1, none⟩ = some (.int .i64 a1) ∧ w'.cell? ⟨w1.heap.size, 2, none⟩ = some (.int .i64 a2) ∧ w'.cell? ⟨w1.heap.size, 3, none⟩ = some (.int .i64 a3) ∧ w'.cell? ⟨w1.heap.size, 4, none⟩ = some (.int .i64 a4) ∧ w'.cell? ⟨w1.heap.size, 5, none⟩ = some (.int .i64 a5)) ∧ (w'.cell? ⟨w2.heap.size, 0, none⟩ = some (.int .i64 a0) ∧ w'.cell? ⟨w2.heap.size, 1, none⟩ = some (.int .i64 j1) ∧ w'.cell? ⟨w2.heap.size, 2, none⟩ = some (.int .i64 j2) ∧ w'.cell? ⟨w2.heap.size, 3, none⟩ = some (.int .i64 j3) ∧ w'.cell? ⟨w2.heap.size, 4, none⟩ = some (.int .i64 j4) ∧ w'.cell? ⟨w2.heap.size, 5, none⟩ = some (.int .i64 j5))) (first | (with_reducible exact kg) | exact kf)
          (first | (go_at_call 14; refine (halves_c (HS5.out.below (belowD (Below.refl _ _))) (HS6.out.below (belowD (Below.refl _ _))) (by have := (enc_range _ HA.out).2; omega)).mono ?_; rintro e w6 ⟨rfl, hb6⟩; rw [HD.out]; have kg := And.intro (Blk.six (KA5.out.drew.only (S := fun _ => False) (Only.of_below hb6) id)) (Blk.six (KJ5.out.drew.only (S := fun _ => False) (Only.of_below hb6) id))))
          go_wp2_with fail
          go_ret
          exact ⟨rfl, HB5.out.trans ((belowD (Below.refl _ _)).trans (hb6.mono (Nat.le_refl _)) |>.mono HB5.out.size)⟩
        · have hb : (a2 == j2) = false := by simpa using hne
          obtain rfl : dv = false := hdf.out (by intro e; simp at e; omega)
          clear hne
          go_wp2_with fail
          go_region_held3 (fun w' => (w'.cell? ⟨w1.heap.size, 0, none⟩ = some (.int .i64 a0) ∧ w'.cell? ⟨w1.heap.size, 1, none⟩ = some (.int .i64 a1) ∧ w'.cell? ⟨w1.heap.size, 2, none⟩ = some (.int .i64 a2) ∧ w'.cell? ⟨w1.heap.size, 3, none⟩ = some (.int .i64 a3) ∧ w'.cell? ⟨w1.heap.size, 4, none⟩ = some (.int .i64 a4) ∧ w'.cell? ⟨w1.heap.size, 5, none⟩ = some (.int .i64 a5)) ∧ (w'.cell? ⟨w2.heap.size, 0, none⟩ = some (.int .i64 a0) ∧ w'.cell? ⟨w2.heap.size, 1, none⟩ = some (.int .i64 a1) ∧ w'.cell? ⟨w2.heap.size, 2, none⟩ = some (.int .i64 j2) ∧ w'.cell? ⟨w2.heap.size, 3, none⟩ = some (.int .i64 j3) ∧ w'.cell? ⟨w2.heap.size, 4, none⟩ = some (.int .i64 j4) ∧ w'.cell? ⟨w2.heap.size, 5, none⟩ = some (.int .i64 j5))) (first | (with_reducible exact kg) | exact kf)
          (first | (go_at_call 14; refine (halves_c (HS5.out.below (belowD (Below.refl _ _))) (HS6.out.below (belowD (Below.refl _ _))) (by have := (enc_range _ HA.out).2; omega)).mono ?_; rintro e w6 ⟨rfl, hb6⟩; rw [HD.out]; have kg := And.intro (Blk.six (KA5.out.drew.only (S := fun _ => False) (Only.of_below hb6) id)) (Blk.six (KJ5.out.drew.only (S := fun _ => False) (Only.of_below hb6) id))))
          go_wp2_with fail
          go_ret
          exact ⟨rfl, HB5.out.trans ((belowD (Below.refl _ _)).trans (hb6.mono (Nat.le_refl _)) |>.mono HB5.out.size)⟩
        · have hb : (a3 == j3) = false := by simpa using hne
          obtain rfl : dv = false := hdf.out (by intro e; simp at e; omega)
          clear hne
          go_wp2_with fail
          go_region_held3 (fun w' => (w'.cell? ⟨w1.heap.size, 0, none⟩ = some (.int .i64 a0) ∧ w'.cell? ⟨w1.heap.size, 1, none⟩ = some (.int .i64 a1) ∧ w'.cell? ⟨w1.heap.size, 2, none⟩ = some (.int .i64 a2) ∧ w'.cell? ⟨w1.heap.size, 3, none⟩ = some (.int .i64 a3) ∧ w'.cell? ⟨w1.heap.size, 4, none⟩ = some (.int .i64 a4) ∧ w'.cell? ⟨w1.heap.size, 5, none⟩ = some (.int .i64 a5)) ∧ (w'.cell? ⟨w2.heap.size, 0, none⟩ = some (.int .i64 a0) ∧ w'.cell? ⟨w2.heap.size, 1, none⟩ = some (.int .i64 a1) ∧ w'.cell? ⟨w2.heap.size, 2, none⟩ = some (.int .i64 a2) ∧ w'.cell? ⟨w2.heap.size, 3, none⟩ = some (.int .i64 j3) ∧ w'.cell? ⟨w2.heap.size, 4, none⟩ = some (.int .i64 j4) ∧ w'.cell? ⟨w2.heap.size, 5, none⟩ = some (.int .i64 j5))) (first | (with_reducible exact kg) | exact kf)
          (first | (go_at_call 14; refine (halves_c (HS5.out.below (belowD (Below.refl _ _))) (HS6.out.below (belowD (Below.refl _ _))) (by have := (enc_range _ HA.out).2; omega)).mono ?_; rintro e w6 ⟨rfl, hb6⟩; rw [HD.out]; have kg := And.intro (Blk.six (KA5.out.drew.only (S := fun _ => False) (Only.of_below hb6) id)) (Blk.six (KJ5.out.drew.only (S := fun _ => False) (Only.of_below hb6) id))))
          go_wp2_with fail
          go_ret
          exact ⟨rfl, HB5.out.trans ((belowD (Below.refl _ _)).trans (hb6.mono (Nat.le_refl _)) |>.mono HB5.out.size)⟩
        · have hb : (a4 == j4) = false := by simpa using hne
          obtain rfl : dv = false := hdf.out (by intro e; simp at e; omega)
          clear hne
          go_wp2_with fail
          go_region_held3 (fun w' => (w'.cell? ⟨w1.heap.size, 0, none⟩ = some (.int .i64 a0) ∧ w'.cell? ⟨w1.heap.size, 1, none⟩ = some (.int .i64 a1) ∧ w'.cell? ⟨w1.heap.size, 2, none⟩ = some (.int .i64 a2) ∧ w'.cell? ⟨w1.heap.size, 3, none⟩ = some (.int .i64 a3) ∧ w'.cell? ⟨w1.heap.size, 4, none⟩ = some (.int .i64 a4) ∧ w'.cell? ⟨w1.heap.size, 5, none⟩ = some (.int .i64 a5)) ∧ (w'.cell? ⟨w2.heap.size, 0, none⟩ = some (.int .i64 a0) ∧ w'.cell? ⟨w2.heap.size, 1, none⟩ = some (.int .i64 a1) ∧ w'.cell? ⟨w2.heap.size, 2, none⟩ = some (.int .i64 a2) ∧ w'.cell? ⟨w2.heap.size, 3, none⟩ = some (.int .i64 a3) ∧ w'.cell? ⟨w2.heap.size, 4, none⟩ = some (.int .i64 j4) ∧ w'.cell? ⟨w2.heap.size, 5, none⟩ = some (.int .i64 j5))) (first | (with_reducible exact kg) | exact kf)
          (first | (go_at_call 14; refine (halves_c (HS5.out.below (belowD (Below.refl _ _))) (HS6.out.below (belowD (Below.refl _ _))) (by have := (enc_range _ HA.out).2; omega)).mono ?_; rintro e w6 ⟨rfl, hb6⟩; rw [HD.out]; have kg := And.intro (Blk.six (KA5.out.drew.only (S := fun _ => False) (Only.of_below hb6) id)) (Blk.six (KJ5.out.drew.only (S := fun _ => False) (Only.of_below hb6) id))))
          go_wp2_with fail
          go_ret
          exact ⟨rfl, HB5.out.trans ((belowD (Below.refl _ _)).trans (hb6.mono (Nat.le_refl _)) |>.mono HB5.out.size)⟩
        · have hb : (a5 == j5) = false := by simpa using hne
          obtain rfl : dv = false := hdf.out (by intro e; simp at e; omega)
          clear hne
          go_wp2_with fail
          go_region_held3 (fun w' => (w'.cell? ⟨w1.heap.size, 0, none⟩ = some (.int .i64 a0) ∧ w'.cell? ⟨w1.heap.size, 1, none⟩ = some (.int .i64 a1) ∧ w'.cell? ⟨w1.heap.size, 2, none⟩ = some (.int .i64 a2) ∧ w'.cell? ⟨w1.heap.size, 3, none⟩ = some (.int .i64 a3) ∧ w'.cell? ⟨w1.heap.size, 4, none⟩ = some (.int .i64 a4) ∧ w'.cell? ⟨w1.heap.size, 5, none⟩ = some (.int .i64 a5)) ∧ (w'.cell? ⟨w2.heap.size, 0, none⟩ = some (.int .i64 a0) ∧ w'.cell? ⟨w2.heap.size, 1, none⟩ = some (.int .i64 a1) ∧ w'.cell? ⟨w2.heap.size, 2, none⟩ = some (.int .i64 a2) ∧ w'.cell? ⟨w2.heap.size, 3, none⟩ = some (.int .i64 a3) ∧ w'.cell? ⟨w2.heap.size, 4, none⟩ = some (.int .i64 a4) ∧ w'.cell? ⟨w2.heap.size, 5, none⟩ = some (.int .i64 j5))) (first | (with_reducible exact kg) | exact kf)
          (first | (go_at_call 14; refine (halves_c (HS5.out.below (belowD (Below.refl _ _))) (HS6.out.below (belowD (Below.refl _ _))) (by have := (enc_range _ HA.out).2; omega)).mono ?_; rintro e w6 ⟨rfl, hb6⟩; rw [HD.out]; have kg := And.intro (Blk.six (KA5.out.drew.only (S := fun _ => False) (Only.of_below hb6) id)) (Blk.six (KJ5.out.drew.only (S := fun _ => False) (Only.of_below hb6) id))))
          go_wp2_with fail
          go_ret
          exact ⟨rfl, HB5.out.trans ((belowD (Below.refl _ _)).trans (hb6.mono (Nat.le_refl _)) |>.mono HB5.out.size)⟩
        · obtain rfl : dv = true := hdt.out rfl
          go_wp2_with fail
          go_region_held3 (fun w' => (w'.cell? ⟨w1.heap.size, 0, none⟩ = some (.int .i64 a0) ∧ w'.cell? ⟨w1.heap.size, 1, none⟩ = some (.int .i64 a1) ∧ w'.cell? ⟨w1.heap.size, 2, none⟩ = some (.int .i64 a2) ∧ w'.cell? ⟨w1.heap.size, 3, none⟩ = some (.int .i64 a3) ∧ w'.cell? ⟨w1.heap.size, 4, none⟩ = some (.int .i64 a4) ∧ w'.cell? ⟨w1.heap.size, 5, none⟩ = some (.int .i64 a5)) ∧ (w'.cell? ⟨w2.heap.size, 0, none⟩ = some (.int .i64 a0) ∧ w'.cell? ⟨w2.heap.size, 1, none⟩ = some (.int .i64 a1) ∧ w'.cell? ⟨w2.heap.size, 2, none⟩ = some (.int .i64 a2) ∧ w'.cell? ⟨w2.heap.size, 3, none⟩ = some (.int .i64 a3) ∧ w'.cell? ⟨w2.heap.size, 4, none⟩ = some (.int .i64 a4) ∧ w'.cell? ⟨w2.heap.size, 5, none⟩ = some (.int .i64 a5))) (first | (with_reducible exact kg) | exact kf)
          (first | (go_at_call 14; refine (halves_c (HS5.out.below (belowD (Below.refl _ _))) (HS6.out.below (belowD (Below.refl _ _))) (by have := (enc_range _ HA.out).2; omega)).mono ?_; rintro e w6 ⟨rfl, hb6⟩; rw [decide_eq_true (rfl : encL ⟨a0, a1, a2, a3, a4, a5⟩ = encL ⟨a0, a1, a2, a3, a4, a5⟩)]; have kg := And.intro (Blk.six (KA5.out.drew.only (S := fun _ => False) (Only.of_below hb6) id)) (Blk.six (KJ5.out.drew.only (S := fun _ => False) (Only.of_below hb6) id))))
          go_wp2_with fail
          go_ret
          exact ⟨rfl, HB5.out.trans ((belowD (Below.refl _ _)).trans (hb6.mono (Nat.le_refl _)) |>.mono HB5.out.size)⟩
end Go.Proofs.Ytpcjkllhieiiiaa
