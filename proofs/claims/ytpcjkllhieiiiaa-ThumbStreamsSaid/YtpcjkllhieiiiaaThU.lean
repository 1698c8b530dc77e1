/- law14's clean: some instruction. -/
import Derived.Test.YtpcjkllhieiiiaaThR
import Derived.Test.YtpcjkllhieiiiaaThK
namespace Go.Proofs.Ytpcjkllhieiiiaa
open Go.RowKit On Th
/-- some instruction -/
def InsAt (w : World) (e : Ending) (w' : World) : Prop :=
  ∃ i : Ins, e = .returned (.agg #[.int .i64 i.op, .int .i64 i.d, .int .i64 i.n, .int .i64 i.m, .int .i64 i.imm, .int .i64 i.cond]) ∧ Below w.heap.size w w'
set_option maxHeartbeats 16000000 in
theorem clean_c (i : Ins) (w : World) : Calls Try.prog 21 #[.agg #[.int .i64 i.op, .int .i64 i.d, .int .i64 i.n, .int .i64 i.m, .int .i64 i.imm, .int .i64 i.cond]] w (InsAt w) := by
  have KI : Blk ((w.alloc (.cells #[.int .i64 i.op, .int .i64 i.d, .int .i64 i.n, .int .i64 i.m, .int .i64 i.imm, .int .i64 i.cond] 24)).alloc (.cells #[.int .i64 0, .int .i64 0, .int .i64 0, .int .i64 0, .int .i64 0, .int .i64 0] 24)) w.heap.size 24 #[.int .i64 i.op, .int .i64 i.d, .int .i64 i.n, .int .i64 i.m, .int .i64 i.imm, .int .i64 i.cond] := (Blk.new _ _ _).alloc _
  have KZ : Blk ((w.alloc (.cells #[.int .i64 i.op, .int .i64 i.d, .int .i64 i.n, .int .i64 i.m, .int .i64 i.imm, .int .i64 i.cond] 24)).alloc (.cells #[.int .i64 0, .int .i64 0, .int .i64 0, .int .i64 0, .int .i64 0, .int .i64 0] 24)) (w.heap.size + 1) 24 #[.int .i64 0, .int .i64 0, .int .i64 0, .int .i64 0, .int .i64 0, .int .i64 0] := Blk.new' _ _ _ _ (by simp only [World.size_alloc])
  have HB0 : Hid (Below w.heap.size w ((w.alloc (.cells #[.int .i64 i.op, .int .i64 i.d, .int .i64 i.n, .int .i64 i.m, .int .i64 i.imm, .int .i64 i.cond] 24)).alloc (.cells #[.int .i64 0, .int .i64 0, .int .i64 0, .int .i64 0, .int .i64 0, .int .i64 0] 24))) := ((Below.refl _ _).alloc (Nat.le_refl _) _).alloc (by simp) _
  have KI := Lib.hid KI
  have KZ := Lib.hid KZ
  go_enter Try.func21, Try.ntmps21
  go_wp2_with fail
  go_loopw [3] (fun k wr => ∃ q : Nat, ∃ o d n m im c : Int, q ≤ 5 ∧ k = .int .i64 q ∧ Blk wr w.heap.size 24 #[.int .i64 o, .int .i64 d, .int .i64 n, .int .i64 m, .int .i64 im, .int .i64 c] ∧ Blk wr (w.heap.size + 1) 24 #[.int .i64 0, .int .i64 0, .int .i64 0, .int .i64 0, .int .i64 0, .int .i64 0] ∧ Below w.heap.size w wr) (fun k _ => 5 - (intOf k).toNat)
  case atStart => exact ⟨0, _, _, _, _, _, _, by omega, rfl, KI.out, KZ.out, HB0.out⟩
  case round =>
    obtain ⟨q, o, d, n, m, im, c, hq, rfl, ki, kz, hb⟩ := hrel
    have HB := Lib.hid hb
    have c0 := ki.cell 0
    have c1 := ki.cell 1
    have c2 := ki.cell 2
    have c3 := ki.cell 3
    have c4 := ki.cell 4
    have c5 := ki.cell 5
    simp at c0 c1 c2 c3 c4 c5
    have KI := Lib.hid ki
    have KZ := Lib.hid kz
    clear hb ki kz
    have hq6 : q = 0 ∨ q = 1 ∨ q = 2 ∨ q = 3 ∨ q = 4 ∨ q = 5 := by omega
    clear hq
    rcases hq6 with rfl | rfl | rfl | rfl | rfl | rfl
    · go_wp2_with fail
      refine (refRight_c ⟨o, d, n, m, im, c⟩ _).mono ?_
      rintro e w2 ⟨rfl, hb⟩
      have HB2 := Lib.hid (HB.out.trans (hb.mono HB.out.size))
      have k2 := KI.out.only (S := fun _ => False) (Only.of_below hb) id
      have c0 := k2.cell 0
      have c1 := k2.cell 1
      have c2 := k2.cell 2
      have c3 := k2.cell 3
      have c4 := k2.cell 4
      have c5 := k2.cell 5
      simp at c0 c1 c2 c3 c4 c5
      have KI2 := Lib.hid k2
      have KZ2 := Lib.hid (KZ.out.only (S := fun _ => False) (Only.of_below hb) id)
      clear hb k2
      generalize rightS ⟨o, d, n, m, im, c⟩ = u
      cases u
      · go_wp2_with fail
        refine (refRight_c ⟨o, d, 0, m, im, c⟩ _).mono ?_
        rintro e w3 ⟨rfl, hb⟩
        have HB3 := Lib.hid ((HB2.out.alloc HB2.out.size (.cells #[.int .i64 o, .int .i64 d, .int .i64 0, .int .i64 m, .int .i64 im, .int .i64 c] 24)).trans (hb.mono (HB2.out.alloc HB2.out.size (.cells #[.int .i64 o, .int .i64 d, .int .i64 0, .int .i64 m, .int .i64 im, .int .i64 c] 24)).size))
        have KI3 := Lib.hid ((KI2.out.alloc (.cells #[.int .i64 o, .int .i64 d, .int .i64 0, .int .i64 m, .int .i64 im, .int .i64 c] 24)).only (S := fun _ => False) (Only.of_below hb) id)
        have KZ3 := Lib.hid ((KZ2.out.alloc (.cells #[.int .i64 o, .int .i64 d, .int .i64 0, .int .i64 m, .int .i64 im, .int .i64 c] 24)).only (S := fun _ => False) (Only.of_below hb) id)
        have k3 := (Blk.new w2 24 #[.int .i64 o, .int .i64 d, .int .i64 0, .int .i64 m, .int .i64 im, .int .i64 c]).only (S := fun _ => False) (Only.of_below hb) id
        have j0 := k3.cell 0
        have j1 := k3.cell 1
        have j2 := k3.cell 2
        have j3 := k3.cell 3
        have j4 := k3.cell 4
        have j5 := k3.cell 5
        simp at j0 j1 j2 j3 j4 j5
        clear hb k3 c0 c1 c2 c3 c4 c5
        generalize rightS ⟨o, d, 0, m, im, c⟩ = u
        cases u
        · have y0 : w3.cell? ⟨w.heap.size, 0, none⟩ = some (.int .i64 o) := KI3.out.cell 0
          have y1 : w3.cell? ⟨w.heap.size, 1, none⟩ = some (.int .i64 d) := KI3.out.cell 1
          have y2 : w3.cell? ⟨w.heap.size, 2, none⟩ = some (.int .i64 n) := KI3.out.cell 2
          have y3 : w3.cell? ⟨w.heap.size, 3, none⟩ = some (.int .i64 m) := KI3.out.cell 3
          have y4 : w3.cell? ⟨w.heap.size, 4, none⟩ = some (.int .i64 im) := KI3.out.cell 4
          have y5 : w3.cell? ⟨w.heap.size, 5, none⟩ = some (.int .i64 c) := KI3.out.cell 5
          have yf0 : w3.frozen? ⟨w.heap.size, 0, none⟩ = false := KI3.out.frozen 0
          have yf1 : w3.frozen? ⟨w.heap.size, 1, none⟩ = false := KI3.out.frozen 1
          have yf2 : w3.frozen? ⟨w.heap.size, 2, none⟩ = false := KI3.out.frozen 2
          have yf3 : w3.frozen? ⟨w.heap.size, 3, none⟩ = false := KI3.out.frozen 3
          have yf4 : w3.frozen? ⟨w.heap.size, 4, none⟩ = false := KI3.out.frozen 4
          have yf5 : w3.frozen? ⟨w.heap.size, 5, none⟩ = false := KI3.out.frozen 5
          have hlt : w.heap.size < w3.heap.size := KI3.out.lt
          have KE : Blk ((((((w3.setCell ⟨w.heap.size, 0, none⟩ (.int .i64 o)).setCell ⟨w.heap.size, 1, none⟩ (.int .i64 d)).setCell ⟨w.heap.size, 2, none⟩ (.int .i64 0)).setCell ⟨w.heap.size, 3, none⟩ (.int .i64 m)).setCell ⟨w.heap.size, 4, none⟩ (.int .i64 im)).setCell ⟨w.heap.size, 5, none⟩ (.int .i64 c)) w.heap.size 24 #[.int .i64 o, .int .i64 d, .int .i64 0, .int .i64 m, .int .i64 im, .int .i64 c] := ((((((((((((KI3.out).set 0 _)).set 1 _)).set 2 _)).set 3 _)).set 4 _)).set 5 _)
          have KF : Blk ((((((w3.setCell ⟨w.heap.size, 0, none⟩ (.int .i64 o)).setCell ⟨w.heap.size, 1, none⟩ (.int .i64 d)).setCell ⟨w.heap.size, 2, none⟩ (.int .i64 0)).setCell ⟨w.heap.size, 3, none⟩ (.int .i64 m)).setCell ⟨w.heap.size, 4, none⟩ (.int .i64 im)).setCell ⟨w.heap.size, 5, none⟩ (.int .i64 c)) (w.heap.size + 1) 24 #[.int .i64 0, .int .i64 0, .int .i64 0, .int .i64 0, .int .i64 0, .int .i64 0] := ((((((KZ3.out.far (p := ⟨w.heap.size, 0, none⟩) (by simp) (.int .i64 o)).far (p := ⟨w.heap.size, 1, none⟩) (by simp) (.int .i64 d)).far (p := ⟨w.heap.size, 2, none⟩) (by simp) (.int .i64 0)).far (p := ⟨w.heap.size, 3, none⟩) (by simp) (.int .i64 m)).far (p := ⟨w.heap.size, 4, none⟩) (by simp) (.int .i64 im)).far (p := ⟨w.heap.size, 5, none⟩) (by simp) (.int .i64 c))
          have HE := Lib.hid ((((((((((((HB3.out).setCell (p := ⟨w.heap.size, 0, none⟩) (Nat.le_refl _) (.int .i64 o))).setCell (p := ⟨w.heap.size, 1, none⟩) (Nat.le_refl _) (.int .i64 d))).setCell (p := ⟨w.heap.size, 2, none⟩) (Nat.le_refl _) (.int .i64 0))).setCell (p := ⟨w.heap.size, 3, none⟩) (Nat.le_refl _) (.int .i64 m))).setCell (p := ⟨w.heap.size, 4, none⟩) (Nat.le_refl _) (.int .i64 im))).setCell (p := ⟨w.heap.size, 5, none⟩) (Nat.le_refl _) (.int .i64 c))
          have KE := Lib.hid KE
          have KF := Lib.hid KF
          go_wp2_with fail
          go_roundw
          case rel => exact ⟨1, _, _, _, _, _, _, by omega, by go_num, KE.out, KF.out, HE.out⟩
          case measure => simp [intOf]
        · have z0 : w3.cell? ⟨w.heap.size + 1, 0, none⟩ = some (.int .i64 0) := KZ3.out.cell 0
          have z1 : w3.cell? ⟨w.heap.size + 1, 1, none⟩ = some (.int .i64 0) := KZ3.out.cell 1
          have z2 : w3.cell? ⟨w.heap.size + 1, 2, none⟩ = some (.int .i64 0) := KZ3.out.cell 2
          have z3 : w3.cell? ⟨w.heap.size + 1, 3, none⟩ = some (.int .i64 0) := KZ3.out.cell 3
          have z4 : w3.cell? ⟨w.heap.size + 1, 4, none⟩ = some (.int .i64 0) := KZ3.out.cell 4
          have z5 : w3.cell? ⟨w.heap.size + 1, 5, none⟩ = some (.int .i64 0) := KZ3.out.cell 5
          have zf0 : w3.frozen? ⟨w.heap.size + 1, 0, none⟩ = false := KZ3.out.frozen 0
          have zf1 : w3.frozen? ⟨w.heap.size + 1, 1, none⟩ = false := KZ3.out.frozen 1
          have zf2 : w3.frozen? ⟨w.heap.size + 1, 2, none⟩ = false := KZ3.out.frozen 2
          have zf3 : w3.frozen? ⟨w.heap.size + 1, 3, none⟩ = false := KZ3.out.frozen 3
          have zf4 : w3.frozen? ⟨w.heap.size + 1, 4, none⟩ = false := KZ3.out.frozen 4
          have zf5 : w3.frozen? ⟨w.heap.size + 1, 5, none⟩ = false := KZ3.out.frozen 5
          go_wp2_with fail
          have KE : Blk ((((((w3.setCell ⟨w.heap.size + 1, 0, none⟩ (.int .i64 o)).setCell ⟨w.heap.size + 1, 1, none⟩ (.int .i64 d)).setCell ⟨w.heap.size + 1, 2, none⟩ (.int .i64 0)).setCell ⟨w.heap.size + 1, 3, none⟩ (.int .i64 m)).setCell ⟨w.heap.size + 1, 4, none⟩ (.int .i64 im)).setCell ⟨w.heap.size + 1, 5, none⟩ (.int .i64 c)) (w.heap.size + 1) 24 #[.int .i64 o, .int .i64 d, .int .i64 0, .int .i64 m, .int .i64 im, .int .i64 c] := ((((((((((((KZ3.out).set 0 _)).set 1 _)).set 2 _)).set 3 _)).set 4 _)).set 5 _)
          have HE := Lib.hid ((((((((((((HB3.out).setCell (p := ⟨w.heap.size + 1, 0, none⟩) (Nat.le_succ _) (.int .i64 o))).setCell (p := ⟨w.heap.size + 1, 1, none⟩) (Nat.le_succ _) (.int .i64 d))).setCell (p := ⟨w.heap.size + 1, 2, none⟩) (Nat.le_succ _) (.int .i64 0))).setCell (p := ⟨w.heap.size + 1, 3, none⟩) (Nat.le_succ _) (.int .i64 m))).setCell (p := ⟨w.heap.size + 1, 4, none⟩) (Nat.le_succ _) (.int .i64 im))).setCell (p := ⟨w.heap.size + 1, 5, none⟩) (Nat.le_succ _) (.int .i64 c))
          have KE := Lib.hid KE
          go_wp2_with fail
          try simp only [Exit.inBlock, Exit.then]
          refine bodyPost_ret (results_cell_row rfl _ _ (w.heap.size + 1) 24 #[.int .i64 o, .int .i64 d, .int .i64 0, .int .i64 m, .int .i64 im, .int .i64 c] (0, 0) _ (by rfl) KE.out Try.underlying24 rfl (by rfl)) rfl ?_
          exact ⟨⟨o, d, 0, m, im, c⟩, rfl, HE.out⟩
      · have z0 : w2.cell? ⟨w.heap.size + 1, 0, none⟩ = some (.int .i64 0) := KZ2.out.cell 0
        have z1 : w2.cell? ⟨w.heap.size + 1, 1, none⟩ = some (.int .i64 0) := KZ2.out.cell 1
        have z2 : w2.cell? ⟨w.heap.size + 1, 2, none⟩ = some (.int .i64 0) := KZ2.out.cell 2
        have z3 : w2.cell? ⟨w.heap.size + 1, 3, none⟩ = some (.int .i64 0) := KZ2.out.cell 3
        have z4 : w2.cell? ⟨w.heap.size + 1, 4, none⟩ = some (.int .i64 0) := KZ2.out.cell 4
        have z5 : w2.cell? ⟨w.heap.size + 1, 5, none⟩ = some (.int .i64 0) := KZ2.out.cell 5
        have zf0 : w2.frozen? ⟨w.heap.size + 1, 0, none⟩ = false := KZ2.out.frozen 0
        have zf1 : w2.frozen? ⟨w.heap.size + 1, 1, none⟩ = false := KZ2.out.frozen 1
        have zf2 : w2.frozen? ⟨w.heap.size + 1, 2, none⟩ = false := KZ2.out.frozen 2
        have zf3 : w2.frozen? ⟨w.heap.size + 1, 3, none⟩ = false := KZ2.out.frozen 3
        have zf4 : w2.frozen? ⟨w.heap.size + 1, 4, none⟩ = false := KZ2.out.frozen 4
        have zf5 : w2.frozen? ⟨w.heap.size + 1, 5, none⟩ = false := KZ2.out.frozen 5
        go_wp2_with fail
        have KE : Blk ((((((w2.setCell ⟨w.heap.size + 1, 0, none⟩ (.int .i64 o)).setCell ⟨w.heap.size + 1, 1, none⟩ (.int .i64 d)).setCell ⟨w.heap.size + 1, 2, none⟩ (.int .i64 n)).setCell ⟨w.heap.size + 1, 3, none⟩ (.int .i64 m)).setCell ⟨w.heap.size + 1, 4, none⟩ (.int .i64 im)).setCell ⟨w.heap.size + 1, 5, none⟩ (.int .i64 c)) (w.heap.size + 1) 24 #[.int .i64 o, .int .i64 d, .int .i64 n, .int .i64 m, .int .i64 im, .int .i64 c] := ((((((((((((KZ2.out).set 0 _)).set 1 _)).set 2 _)).set 3 _)).set 4 _)).set 5 _)
        have HE := Lib.hid ((((((((((((HB2.out).setCell (p := ⟨w.heap.size + 1, 0, none⟩) (Nat.le_succ _) (.int .i64 o))).setCell (p := ⟨w.heap.size + 1, 1, none⟩) (Nat.le_succ _) (.int .i64 d))).setCell (p := ⟨w.heap.size + 1, 2, none⟩) (Nat.le_succ _) (.int .i64 n))).setCell (p := ⟨w.heap.size + 1, 3, none⟩) (Nat.le_succ _) (.int .i64 m))).setCell (p := ⟨w.heap.size + 1, 4, none⟩) (Nat.le_succ _) (.int .i64 im))).setCell (p := ⟨w.heap.size + 1, 5, none⟩) (Nat.le_succ _) (.int .i64 c))
        have KE := Lib.hid KE
        go_wp2_with fail
        try simp only [Exit.inBlock, Exit.then]
        refine bodyPost_ret (results_cell_row rfl _ _ (w.heap.size + 1) 24 #[.int .i64 o, .int .i64 d, .int .i64 n, .int .i64 m, .int .i64 im, .int .i64 c] (0, 0) _ (by rfl) KE.out Try.underlying24 rfl (by rfl)) rfl ?_
        exact ⟨⟨o, d, n, m, im, c⟩, rfl, HE.out⟩
    · go_wp2_with fail
      refine (refRight_c ⟨o, d, n, m, im, c⟩ _).mono ?_
      rintro e w2 ⟨rfl, hb⟩
      have HB2 := Lib.hid (HB.out.trans (hb.mono HB.out.size))
      have k2 := KI.out.only (S := fun _ => False) (Only.of_below hb) id
      have c0 := k2.cell 0
      have c1 := k2.cell 1
      have c2 := k2.cell 2
      have c3 := k2.cell 3
      have c4 := k2.cell 4
      have c5 := k2.cell 5
      simp at c0 c1 c2 c3 c4 c5
      have KI2 := Lib.hid k2
      have KZ2 := Lib.hid (KZ.out.only (S := fun _ => False) (Only.of_below hb) id)
      clear hb k2
      generalize rightS ⟨o, d, n, m, im, c⟩ = u
      cases u
      · go_wp2_with fail
        refine (refRight_c ⟨o, d, n, 0, im, c⟩ _).mono ?_
        rintro e w3 ⟨rfl, hb⟩
        have HB3 := Lib.hid ((HB2.out.alloc HB2.out.size (.cells #[.int .i64 o, .int .i64 d, .int .i64 n, .int .i64 0, .int .i64 im, .int .i64 c] 24)).trans (hb.mono (HB2.out.alloc HB2.out.size (.cells #[.int .i64 o, .int .i64 d, .int .i64 n, .int .i64 0, .int .i64 im, .int .i64 c] 24)).size))
        have KI3 := Lib.hid ((KI2.out.alloc (.cells #[.int .i64 o, .int .i64 d, .int .i64 n, .int .i64 0, .int .i64 im, .int .i64 c] 24)).only (S := fun _ => False) (Only.of_below hb) id)
        have KZ3 := Lib.hid ((KZ2.out.alloc (.cells #[.int .i64 o, .int .i64 d, .int .i64 n, .int .i64 0, .int .i64 im, .int .i64 c] 24)).only (S := fun _ => False) (Only.of_below hb) id)
        have k3 := (Blk.new w2 24 #[.int .i64 o, .int .i64 d, .int .i64 n, .int .i64 0, .int .i64 im, .int .i64 c]).only (S := fun _ => False) (Only.of_below hb) id
        have j0 := k3.cell 0
        have j1 := k3.cell 1
        have j2 := k3.cell 2
        have j3 := k3.cell 3
        have j4 := k3.cell 4
        have j5 := k3.cell 5
        simp at j0 j1 j2 j3 j4 j5
        clear hb k3 c0 c1 c2 c3 c4 c5
        generalize rightS ⟨o, d, n, 0, im, c⟩ = u
        cases u
        · have y0 : w3.cell? ⟨w.heap.size, 0, none⟩ = some (.int .i64 o) := KI3.out.cell 0
          have y1 : w3.cell? ⟨w.heap.size, 1, none⟩ = some (.int .i64 d) := KI3.out.cell 1
          have y2 : w3.cell? ⟨w.heap.size, 2, none⟩ = some (.int .i64 n) := KI3.out.cell 2
          have y3 : w3.cell? ⟨w.heap.size, 3, none⟩ = some (.int .i64 m) := KI3.out.cell 3
          have y4 : w3.cell? ⟨w.heap.size, 4, none⟩ = some (.int .i64 im) := KI3.out.cell 4
          have y5 : w3.cell? ⟨w.heap.size, 5, none⟩ = some (.int .i64 c) := KI3.out.cell 5
          have yf0 : w3.frozen? ⟨w.heap.size, 0, none⟩ = false := KI3.out.frozen 0
          have yf1 : w3.frozen? ⟨w.heap.size, 1, none⟩ = false := KI3.out.frozen 1
          have yf2 : w3.frozen? ⟨w.heap.size, 2, none⟩ = false := KI3.out.frozen 2
          have yf3 : w3.frozen? ⟨w.heap.size, 3, none⟩ = false := KI3.out.frozen 3
          have yf4 : w3.frozen? ⟨w.heap.size, 4, none⟩ = false := KI3.out.frozen 4
          have yf5 : w3.frozen? ⟨w.heap.size, 5, none⟩ = false := KI3.out.frozen 5
          have hlt : w.heap.size < w3.heap.size := KI3.out.lt
          have KE : Blk ((((((w3.setCell ⟨w.heap.size, 0, none⟩ (.int .i64 o)).setCell ⟨w.heap.size, 1, none⟩ (.int .i64 d)).setCell ⟨w.heap.size, 2, none⟩ (.int .i64 n)).setCell ⟨w.heap.size, 3, none⟩ (.int .i64 0)).setCell ⟨w.heap.size, 4, none⟩ (.int .i64 im)).setCell ⟨w.heap.size, 5, none⟩ (.int .i64 c)) w.heap.size 24 #[.int .i64 o, .int .i64 d, .int .i64 n, .int .i64 0, .int .i64 im, .int .i64 c] := ((((((((((((KI3.out).set 0 _)).set 1 _)).set 2 _)).set 3 _)).set 4 _)).set 5 _)
          have KF : Blk ((((((w3.setCell ⟨w.heap.size, 0, none⟩ (.int .i64 o)).setCell ⟨w.heap.size, 1, none⟩ (.int .i64 d)).setCell ⟨w.heap.size, 2, none⟩ (.int .i64 n)).setCell ⟨w.heap.size, 3, none⟩ (.int .i64 0)).setCell ⟨w.heap.size, 4, none⟩ (.int .i64 im)).setCell ⟨w.heap.size, 5, none⟩ (.int .i64 c)) (w.heap.size + 1) 24 #[.int .i64 0, .int .i64 0, .int .i64 0, .int .i64 0, .int .i64 0, .int .i64 0] := ((((((KZ3.out.far (p := ⟨w.heap.size, 0, none⟩) (by simp) (.int .i64 o)).far (p := ⟨w.heap.size, 1, none⟩) (by simp) (.int .i64 d)).far (p := ⟨w.heap.size, 2, none⟩) (by simp) (.int .i64 n)).far (p := ⟨w.heap.size, 3, none⟩) (by simp) (.int .i64 0)).far (p := ⟨w.heap.size, 4, none⟩) (by simp) (.int .i64 im)).far (p := ⟨w.heap.size, 5, none⟩) (by simp) (.int .i64 c))
          have HE := Lib.hid ((((((((((((HB3.out).setCell (p := ⟨w.heap.size, 0, none⟩) (Nat.le_refl _) (.int .i64 o))).setCell (p := ⟨w.heap.size, 1, none⟩) (Nat.le_refl _) (.int .i64 d))).setCell (p := ⟨w.heap.size, 2, none⟩) (Nat.le_refl _) (.int .i64 n))).setCell (p := ⟨w.heap.size, 3, none⟩) (Nat.le_refl _) (.int .i64 0))).setCell (p := ⟨w.heap.size, 4, none⟩) (Nat.le_refl _) (.int .i64 im))).setCell (p := ⟨w.heap.size, 5, none⟩) (Nat.le_refl _) (.int .i64 c))
          have KE := Lib.hid KE
          have KF := Lib.hid KF
          go_wp2_with fail
          go_roundw
          case rel => exact ⟨2, _, _, _, _, _, _, by omega, by go_num, KE.out, KF.out, HE.out⟩
          case measure => simp [intOf]
        · have z0 : w3.cell? ⟨w.heap.size + 1, 0, none⟩ = some (.int .i64 0) := KZ3.out.cell 0
          have z1 : w3.cell? ⟨w.heap.size + 1, 1, none⟩ = some (.int .i64 0) := KZ3.out.cell 1
          have z2 : w3.cell? ⟨w.heap.size + 1, 2, none⟩ = some (.int .i64 0) := KZ3.out.cell 2
          have z3 : w3.cell? ⟨w.heap.size + 1, 3, none⟩ = some (.int .i64 0) := KZ3.out.cell 3
          have z4 : w3.cell? ⟨w.heap.size + 1, 4, none⟩ = some (.int .i64 0) := KZ3.out.cell 4
          have z5 : w3.cell? ⟨w.heap.size + 1, 5, none⟩ = some (.int .i64 0) := KZ3.out.cell 5
          have zf0 : w3.frozen? ⟨w.heap.size + 1, 0, none⟩ = false := KZ3.out.frozen 0
          have zf1 : w3.frozen? ⟨w.heap.size + 1, 1, none⟩ = false := KZ3.out.frozen 1
          have zf2 : w3.frozen? ⟨w.heap.size + 1, 2, none⟩ = false := KZ3.out.frozen 2
          have zf3 : w3.frozen? ⟨w.heap.size + 1, 3, none⟩ = false := KZ3.out.frozen 3
          have zf4 : w3.frozen? ⟨w.heap.size + 1, 4, none⟩ = false := KZ3.out.frozen 4
          have zf5 : w3.frozen? ⟨w.heap.size + 1, 5, none⟩ = false := KZ3.out.frozen 5
          go_wp2_with fail
          have KE : Blk ((((((w3.setCell ⟨w.heap.size + 1, 0, none⟩ (.int .i64 o)).setCell ⟨w.heap.size + 1, 1, none⟩ (.int .i64 d)).setCell ⟨w.heap.size + 1, 2, none⟩ (.int .i64 n)).setCell ⟨w.heap.size + 1, 3, none⟩ (.int .i64 0)).setCell ⟨w.heap.size + 1, 4, none⟩ (.int .i64 im)).setCell ⟨w.heap.size + 1, 5, none⟩ (.int .i64 c)) (w.heap.size + 1) 24 #[.int .i64 o, .int .i64 d, .int .i64 n, .int .i64 0, .int .i64 im, .int .i64 c] := ((((((((((((KZ3.out).set 0 _)).set 1 _)).set 2 _)).set 3 _)).set 4 _)).set 5 _)
          have HE := Lib.hid ((((((((((((HB3.out).setCell (p := ⟨w.heap.size + 1, 0, none⟩) (Nat.le_succ _) (.int .i64 o))).setCell (p := ⟨w.heap.size + 1, 1, none⟩) (Nat.le_succ _) (.int .i64 d))).setCell (p := ⟨w.heap.size + 1, 2, none⟩) (Nat.le_succ _) (.int .i64 n))).setCell (p := ⟨w.heap.size + 1, 3, none⟩) (Nat.le_succ _) (.int .i64 0))).setCell (p := ⟨w.heap.size + 1, 4, none⟩) (Nat.le_succ _) (.int .i64 im))).setCell (p := ⟨w.heap.size + 1, 5, none⟩) (Nat.le_succ _) (.int .i64 c))
          have KE := Lib.hid KE
          go_wp2_with fail
          try simp only [Exit.inBlock, Exit.then]
          refine bodyPost_ret (results_cell_row rfl _ _ (w.heap.size + 1) 24 #[.int .i64 o, .int .i64 d, .int .i64 n, .int .i64 0, .int .i64 im, .int .i64 c] (0, 0) _ (by rfl) KE.out Try.underlying24 rfl (by rfl)) rfl ?_
          exact ⟨⟨o, d, n, 0, im, c⟩, rfl, HE.out⟩
      · have z0 : w2.cell? ⟨w.heap.size + 1, 0, none⟩ = some (.int .i64 0) := KZ2.out.cell 0
        have z1 : w2.cell? ⟨w.heap.size + 1, 1, none⟩ = some (.int .i64 0) := KZ2.out.cell 1
        have z2 : w2.cell? ⟨w.heap.size + 1, 2, none⟩ = some (.int .i64 0) := KZ2.out.cell 2
        have z3 : w2.cell? ⟨w.heap.size + 1, 3, none⟩ = some (.int .i64 0) := KZ2.out.cell 3
        have z4 : w2.cell? ⟨w.heap.size + 1, 4, none⟩ = some (.int .i64 0) := KZ2.out.cell 4
        have z5 : w2.cell? ⟨w.heap.size + 1, 5, none⟩ = some (.int .i64 0) := KZ2.out.cell 5
        have zf0 : w2.frozen? ⟨w.heap.size + 1, 0, none⟩ = false := KZ2.out.frozen 0
        have zf1 : w2.frozen? ⟨w.heap.size + 1, 1, none⟩ = false := KZ2.out.frozen 1
        have zf2 : w2.frozen? ⟨w.heap.size + 1, 2, none⟩ = false := KZ2.out.frozen 2
        have zf3 : w2.frozen? ⟨w.heap.size + 1, 3, none⟩ = false := KZ2.out.frozen 3
        have zf4 : w2.frozen? ⟨w.heap.size + 1, 4, none⟩ = false := KZ2.out.frozen 4
        have zf5 : w2.frozen? ⟨w.heap.size + 1, 5, none⟩ = false := KZ2.out.frozen 5
        go_wp2_with fail
        have KE : Blk ((((((w2.setCell ⟨w.heap.size + 1, 0, none⟩ (.int .i64 o)).setCell ⟨w.heap.size + 1, 1, none⟩ (.int .i64 d)).setCell ⟨w.heap.size + 1, 2, none⟩ (.int .i64 n)).setCell ⟨w.heap.size + 1, 3, none⟩ (.int .i64 m)).setCell ⟨w.heap.size + 1, 4, none⟩ (.int .i64 im)).setCell ⟨w.heap.size + 1, 5, none⟩ (.int .i64 c)) (w.heap.size + 1) 24 #[.int .i64 o, .int .i64 d, .int .i64 n, .int .i64 m, .int .i64 im, .int .i64 c] := ((((((((((((KZ2.out).set 0 _)).set 1 _)).set 2 _)).set 3 _)).set 4 _)).set 5 _)
        have HE := Lib.hid ((((((((((((HB2.out).setCell (p := ⟨w.heap.size + 1, 0, none⟩) (Nat.le_succ _) (.int .i64 o))).setCell (p := ⟨w.heap.size + 1, 1, none⟩) (Nat.le_succ _) (.int .i64 d))).setCell (p := ⟨w.heap.size + 1, 2, none⟩) (Nat.le_succ _) (.int .i64 n))).setCell (p := ⟨w.heap.size + 1, 3, none⟩) (Nat.le_succ _) (.int .i64 m))).setCell (p := ⟨w.heap.size + 1, 4, none⟩) (Nat.le_succ _) (.int .i64 im))).setCell (p := ⟨w.heap.size + 1, 5, none⟩) (Nat.le_succ _) (.int .i64 c))
        have KE := Lib.hid KE
        go_wp2_with fail
        try simp only [Exit.inBlock, Exit.then]
        refine bodyPost_ret (results_cell_row rfl _ _ (w.heap.size + 1) 24 #[.int .i64 o, .int .i64 d, .int .i64 n, .int .i64 m, .int .i64 im, .int .i64 c] (0, 0) _ (by rfl) KE.out Try.underlying24 rfl (by rfl)) rfl ?_
        exact ⟨⟨o, d, n, m, im, c⟩, rfl, HE.out⟩
    · go_wp2_with fail
      refine (refRight_c ⟨o, d, n, m, im, c⟩ _).mono ?_
      rintro e w2 ⟨rfl, hb⟩
      have HB2 := Lib.hid (HB.out.trans (hb.mono HB.out.size))
      have k2 := KI.out.only (S := fun _ => False) (Only.of_below hb) id
      have c0 := k2.cell 0
      have c1 := k2.cell 1
      have c2 := k2.cell 2
      have c3 := k2.cell 3
      have c4 := k2.cell 4
      have c5 := k2.cell 5
      simp at c0 c1 c2 c3 c4 c5
      have KI2 := Lib.hid k2
      have KZ2 := Lib.hid (KZ.out.only (S := fun _ => False) (Only.of_below hb) id)
      clear hb k2
      generalize rightS ⟨o, d, n, m, im, c⟩ = u
      cases u
      · go_wp2_with fail
        refine (refRight_c ⟨o, 0, n, m, im, c⟩ _).mono ?_
        rintro e w3 ⟨rfl, hb⟩
        have HB3 := Lib.hid ((HB2.out.alloc HB2.out.size (.cells #[.int .i64 o, .int .i64 0, .int .i64 n, .int .i64 m, .int .i64 im, .int .i64 c] 24)).trans (hb.mono (HB2.out.alloc HB2.out.size (.cells #[.int .i64 o, .int .i64 0, .int .i64 n, .int .i64 m, .int .i64 im, .int .i64 c] 24)).size))
        have KI3 := Lib.hid ((KI2.out.alloc (.cells #[.int .i64 o, .int .i64 0, .int .i64 n, .int .i64 m, .int .i64 im, .int .i64 c] 24)).only (S := fun _ => False) (Only.of_below hb) id)
        have KZ3 := Lib.hid ((KZ2.out.alloc (.cells #[.int .i64 o, .int .i64 0, .int .i64 n, .int .i64 m, .int .i64 im, .int .i64 c] 24)).only (S := fun _ => False) (Only.of_below hb) id)
        have k3 := (Blk.new w2 24 #[.int .i64 o, .int .i64 0, .int .i64 n, .int .i64 m, .int .i64 im, .int .i64 c]).only (S := fun _ => False) (Only.of_below hb) id
        have j0 := k3.cell 0
        have j1 := k3.cell 1
        have j2 := k3.cell 2
        have j3 := k3.cell 3
        have j4 := k3.cell 4
        have j5 := k3.cell 5
        simp at j0 j1 j2 j3 j4 j5
        clear hb k3 c0 c1 c2 c3 c4 c5
        generalize rightS ⟨o, 0, n, m, im, c⟩ = u
        cases u
        · go_wp2_with fail
          go_roundw
          case rel => exact ⟨3, _, _, _, _, _, _, by omega, by go_num, KI3.out, KZ3.out, HB3.out⟩
          case measure => simp [intOf]
        · have z0 : w3.cell? ⟨w.heap.size + 1, 0, none⟩ = some (.int .i64 0) := KZ3.out.cell 0
          have z1 : w3.cell? ⟨w.heap.size + 1, 1, none⟩ = some (.int .i64 0) := KZ3.out.cell 1
          have z2 : w3.cell? ⟨w.heap.size + 1, 2, none⟩ = some (.int .i64 0) := KZ3.out.cell 2
          have z3 : w3.cell? ⟨w.heap.size + 1, 3, none⟩ = some (.int .i64 0) := KZ3.out.cell 3
          have z4 : w3.cell? ⟨w.heap.size + 1, 4, none⟩ = some (.int .i64 0) := KZ3.out.cell 4
          have z5 : w3.cell? ⟨w.heap.size + 1, 5, none⟩ = some (.int .i64 0) := KZ3.out.cell 5
          have zf0 : w3.frozen? ⟨w.heap.size + 1, 0, none⟩ = false := KZ3.out.frozen 0
          have zf1 : w3.frozen? ⟨w.heap.size + 1, 1, none⟩ = false := KZ3.out.frozen 1
          have zf2 : w3.frozen? ⟨w.heap.size + 1, 2, none⟩ = false := KZ3.out.frozen 2
          have zf3 : w3.frozen? ⟨w.heap.size + 1, 3, none⟩ = false := KZ3.out.frozen 3
          have zf4 : w3.frozen? ⟨w.heap.size + 1, 4, none⟩ = false := KZ3.out.frozen 4
          have zf5 : w3.frozen? ⟨w.heap.size + 1, 5, none⟩ = false := KZ3.out.frozen 5
          go_wp2_with fail
          have KE : Blk ((((((w3.setCell ⟨w.heap.size + 1, 0, none⟩ (.int .i64 o)).setCell ⟨w.heap.size + 1, 1, none⟩ (.int .i64 0)).setCell ⟨w.heap.size + 1, 2, none⟩ (.int .i64 n)).setCell ⟨w.heap.size + 1, 3, none⟩ (.int .i64 m)).setCell ⟨w.heap.size + 1, 4, none⟩ (.int .i64 im)).setCell ⟨w.heap.size + 1, 5, none⟩ (.int .i64 c)) (w.heap.size + 1) 24 #[.int .i64 o, .int .i64 0, .int .i64 n, .int .i64 m, .int .i64 im, .int .i64 c] := ((((((((((((KZ3.out).set 0 _)).set 1 _)).set 2 _)).set 3 _)).set 4 _)).set 5 _)
          have HE := Lib.hid ((((((((((((HB3.out).setCell (p := ⟨w.heap.size + 1, 0, none⟩) (Nat.le_succ _) (.int .i64 o))).setCell (p := ⟨w.heap.size + 1, 1, none⟩) (Nat.le_succ _) (.int .i64 0))).setCell (p := ⟨w.heap.size + 1, 2, none⟩) (Nat.le_succ _) (.int .i64 n))).setCell (p := ⟨w.heap.size + 1, 3, none⟩) (Nat.le_succ _) (.int .i64 m))).setCell (p := ⟨w.heap.size + 1, 4, none⟩) (Nat.le_succ _) (.int .i64 im))).setCell (p := ⟨w.heap.size + 1, 5, none⟩) (Nat.le_succ _) (.int .i64 c))
          have KE := Lib.hid KE
          go_wp2_with fail
          try simp only [Exit.inBlock, Exit.then]
          refine bodyPost_ret (results_cell_row rfl _ _ (w.heap.size + 1) 24 #[.int .i64 o, .int .i64 0, .int .i64 n, .int .i64 m, .int .i64 im, .int .i64 c] (0, 0) _ (by rfl) KE.out Try.underlying24 rfl (by rfl)) rfl ?_
          exact ⟨⟨o, 0, n, m, im, c⟩, rfl, HE.out⟩
      · have z0 : w2.cell? ⟨w.heap.size + 1, 0, none⟩ = some (.int .i64 0) := KZ2.out.cell 0
        have z1 : w2.cell? ⟨w.heap.size + 1, 1, none⟩ = some (.int .i64 0) := KZ2.out.cell 1
        have z2 : w2.cell? ⟨w.heap.size + 1, 2, none⟩ = some (.int .i64 0) := KZ2.out.cell 2
        have z3 : w2.cell? ⟨w.heap.size + 1, 3, none⟩ = some (.int .i64 0) := KZ2.out.cell 3
        have z4 : w2.cell? ⟨w.heap.size + 1, 4, none⟩ = some (.int .i64 0) := KZ2.out.cell 4
        have z5 : w2.cell? ⟨w.heap.size + 1, 5, none⟩ = some (.int .i64 0) := KZ2.out.cell 5
        have zf0 : w2.frozen? ⟨w.heap.size + 1, 0, none⟩ = false := KZ2.out.frozen 0
        have zf1 : w2.frozen? ⟨w.heap.size + 1, 1, none⟩ = false := KZ2.out.frozen 1
        have zf2 : w2.frozen? ⟨w.heap.size + 1, 2, none⟩ = false := KZ2.out.frozen 2
        have zf3 : w2.frozen? ⟨w.heap.size + 1, 3, none⟩ = false := KZ2.out.frozen 3
        have zf4 : w2.frozen? ⟨w.heap.size + 1, 4, none⟩ = false := KZ2.out.frozen 4
        have zf5 : w2.frozen? ⟨w.heap.size + 1, 5, none⟩ = false := KZ2.out.frozen 5
        go_wp2_with fail
        have KE : Blk ((((((w2.setCell ⟨w.heap.size + 1, 0, none⟩ (.int .i64 o)).setCell ⟨w.heap.size + 1, 1, none⟩ (.int .i64 d)).setCell ⟨w.heap.size + 1, 2, none⟩ (.int .i64 n)).setCell ⟨w.heap.size + 1, 3, none⟩ (.int .i64 m)).setCell ⟨w.heap.size + 1, 4, none⟩ (.int .i64 im)).setCell ⟨w.heap.size + 1, 5, none⟩ (.int .i64 c)) (w.heap.size + 1) 24 #[.int .i64 o, .int .i64 d, .int .i64 n, .int .i64 m, .int .i64 im, .int .i64 c] := ((((((((((((KZ2.out).set 0 _)).set 1 _)).set 2 _)).set 3 _)).set 4 _)).set 5 _)
        have HE := Lib.hid ((((((((((((HB2.out).setCell (p := ⟨w.heap.size + 1, 0, none⟩) (Nat.le_succ _) (.int .i64 o))).setCell (p := ⟨w.heap.size + 1, 1, none⟩) (Nat.le_succ _) (.int .i64 d))).setCell (p := ⟨w.heap.size + 1, 2, none⟩) (Nat.le_succ _) (.int .i64 n))).setCell (p := ⟨w.heap.size + 1, 3, none⟩) (Nat.le_succ _) (.int .i64 m))).setCell (p := ⟨w.heap.size + 1, 4, none⟩) (Nat.le_succ _) (.int .i64 im))).setCell (p := ⟨w.heap.size + 1, 5, none⟩) (Nat.le_succ _) (.int .i64 c))
        have KE := Lib.hid KE
        go_wp2_with fail
        try simp only [Exit.inBlock, Exit.then]
        refine bodyPost_ret (results_cell_row rfl _ _ (w.heap.size + 1) 24 #[.int .i64 o, .int .i64 d, .int .i64 n, .int .i64 m, .int .i64 im, .int .i64 c] (0, 0) _ (by rfl) KE.out Try.underlying24 rfl (by rfl)) rfl ?_
        exact ⟨⟨o, d, n, m, im, c⟩, rfl, HE.out⟩
    · go_wp2_with fail
      refine (refRight_c ⟨o, d, n, m, im, c⟩ _).mono ?_
      rintro e w2 ⟨rfl, hb⟩
      have HB2 := Lib.hid (HB.out.trans (hb.mono HB.out.size))
      have k2 := KI.out.only (S := fun _ => False) (Only.of_below hb) id
      have c0 := k2.cell 0
      have c1 := k2.cell 1
      have c2 := k2.cell 2
      have c3 := k2.cell 3
      have c4 := k2.cell 4
      have c5 := k2.cell 5
      simp at c0 c1 c2 c3 c4 c5
      have KI2 := Lib.hid k2
      have KZ2 := Lib.hid (KZ.out.only (S := fun _ => False) (Only.of_below hb) id)
      clear hb k2
      generalize rightS ⟨o, d, n, m, im, c⟩ = u
      cases u
      · go_wp2_with fail
        refine (refRight_c ⟨o, d, n, m, 0, c⟩ _).mono ?_
        rintro e w3 ⟨rfl, hb⟩
        have HB3 := Lib.hid ((HB2.out.alloc HB2.out.size (.cells #[.int .i64 o, .int .i64 d, .int .i64 n, .int .i64 m, .int .i64 0, .int .i64 c] 24)).trans (hb.mono (HB2.out.alloc HB2.out.size (.cells #[.int .i64 o, .int .i64 d, .int .i64 n, .int .i64 m, .int .i64 0, .int .i64 c] 24)).size))
        have KI3 := Lib.hid ((KI2.out.alloc (.cells #[.int .i64 o, .int .i64 d, .int .i64 n, .int .i64 m, .int .i64 0, .int .i64 c] 24)).only (S := fun _ => False) (Only.of_below hb) id)
        have KZ3 := Lib.hid ((KZ2.out.alloc (.cells #[.int .i64 o, .int .i64 d, .int .i64 n, .int .i64 m, .int .i64 0, .int .i64 c] 24)).only (S := fun _ => False) (Only.of_below hb) id)
        have k3 := (Blk.new w2 24 #[.int .i64 o, .int .i64 d, .int .i64 n, .int .i64 m, .int .i64 0, .int .i64 c]).only (S := fun _ => False) (Only.of_below hb) id
        have j0 := k3.cell 0
        have j1 := k3.cell 1
        have j2 := k3.cell 2
        have j3 := k3.cell 3
        have j4 := k3.cell 4
        have j5 := k3.cell 5
        simp at j0 j1 j2 j3 j4 j5
        clear hb k3 c0 c1 c2 c3 c4 c5
        generalize rightS ⟨o, d, n, m, 0, c⟩ = u
        cases u
        · go_wp2_with fail
          go_roundw
          case rel => exact ⟨4, _, _, _, _, _, _, by omega, by go_num, KI3.out, KZ3.out, HB3.out⟩
          case measure => simp [intOf]
        · have z0 : w3.cell? ⟨w.heap.size + 1, 0, none⟩ = some (.int .i64 0) := KZ3.out.cell 0
          have z1 : w3.cell? ⟨w.heap.size + 1, 1, none⟩ = some (.int .i64 0) := KZ3.out.cell 1
          have z2 : w3.cell? ⟨w.heap.size + 1, 2, none⟩ = some (.int .i64 0) := KZ3.out.cell 2
          have z3 : w3.cell? ⟨w.heap.size + 1, 3, none⟩ = some (.int .i64 0) := KZ3.out.cell 3
          have z4 : w3.cell? ⟨w.heap.size + 1, 4, none⟩ = some (.int .i64 0) := KZ3.out.cell 4
          have z5 : w3.cell? ⟨w.heap.size + 1, 5, none⟩ = some (.int .i64 0) := KZ3.out.cell 5
          have zf0 : w3.frozen? ⟨w.heap.size + 1, 0, none⟩ = false := KZ3.out.frozen 0
          have zf1 : w3.frozen? ⟨w.heap.size + 1, 1, none⟩ = false := KZ3.out.frozen 1
          have zf2 : w3.frozen? ⟨w.heap.size + 1, 2, none⟩ = false := KZ3.out.frozen 2
          have zf3 : w3.frozen? ⟨w.heap.size + 1, 3, none⟩ = false := KZ3.out.frozen 3
          have zf4 : w3.frozen? ⟨w.heap.size + 1, 4, none⟩ = false := KZ3.out.frozen 4
          have zf5 : w3.frozen? ⟨w.heap.size + 1, 5, none⟩ = false := KZ3.out.frozen 5
          go_wp2_with fail
          have KE : Blk ((((((w3.setCell ⟨w.heap.size + 1, 0, none⟩ (.int .i64 o)).setCell ⟨w.heap.size + 1, 1, none⟩ (.int .i64 d)).setCell ⟨w.heap.size + 1, 2, none⟩ (.int .i64 n)).setCell ⟨w.heap.size + 1, 3, none⟩ (.int .i64 m)).setCell ⟨w.heap.size + 1, 4, none⟩ (.int .i64 0)).setCell ⟨w.heap.size + 1, 5, none⟩ (.int .i64 c)) (w.heap.size + 1) 24 #[.int .i64 o, .int .i64 d, .int .i64 n, .int .i64 m, .int .i64 0, .int .i64 c] := ((((((((((((KZ3.out).set 0 _)).set 1 _)).set 2 _)).set 3 _)).set 4 _)).set 5 _)
          have HE := Lib.hid ((((((((((((HB3.out).setCell (p := ⟨w.heap.size + 1, 0, none⟩) (Nat.le_succ _) (.int .i64 o))).setCell (p := ⟨w.heap.size + 1, 1, none⟩) (Nat.le_succ _) (.int .i64 d))).setCell (p := ⟨w.heap.size + 1, 2, none⟩) (Nat.le_succ _) (.int .i64 n))).setCell (p := ⟨w.heap.size + 1, 3, none⟩) (Nat.le_succ _) (.int .i64 m))).setCell (p := ⟨w.heap.size + 1, 4, none⟩) (Nat.le_succ _) (.int .i64 0))).setCell (p := ⟨w.heap.size + 1, 5, none⟩) (Nat.le_succ _) (.int .i64 c))
          have KE := Lib.hid KE
          go_wp2_with fail
          try simp only [Exit.inBlock, Exit.then]
          refine bodyPost_ret (results_cell_row rfl _ _ (w.heap.size + 1) 24 #[.int .i64 o, .int .i64 d, .int .i64 n, .int .i64 m, .int .i64 0, .int .i64 c] (0, 0) _ (by rfl) KE.out Try.underlying24 rfl (by rfl)) rfl ?_
          exact ⟨⟨o, d, n, m, 0, c⟩, rfl, HE.out⟩
      · have z0 : w2.cell? ⟨w.heap.size + 1, 0, none⟩ = some (.int .i64 0) := KZ2.out.cell 0
        have z1 : w2.cell? ⟨w.heap.size + 1, 1, none⟩ = some (.int .i64 0) := KZ2.out.cell 1
        have z2 : w2.cell? ⟨w.heap.size + 1, 2, none⟩ = some (.int .i64 0) := KZ2.out.cell 2
        have z3 : w2.cell? ⟨w.heap.size + 1, 3, none⟩ = some (.int .i64 0) := KZ2.out.cell 3
        have z4 : w2.cell? ⟨w.heap.size + 1, 4, none⟩ = some (.int .i64 0) := KZ2.out.cell 4
        have z5 : w2.cell? ⟨w.heap.size + 1, 5, none⟩ = some (.int .i64 0) := KZ2.out.cell 5
        have zf0 : w2.frozen? ⟨w.heap.size + 1, 0, none⟩ = false := KZ2.out.frozen 0
        have zf1 : w2.frozen? ⟨w.heap.size + 1, 1, none⟩ = false := KZ2.out.frozen 1
        have zf2 : w2.frozen? ⟨w.heap.size + 1, 2, none⟩ = false := KZ2.out.frozen 2
        have zf3 : w2.frozen? ⟨w.heap.size + 1, 3, none⟩ = false := KZ2.out.frozen 3
        have zf4 : w2.frozen? ⟨w.heap.size + 1, 4, none⟩ = false := KZ2.out.frozen 4
        have zf5 : w2.frozen? ⟨w.heap.size + 1, 5, none⟩ = false := KZ2.out.frozen 5
        go_wp2_with fail
        have KE : Blk ((((((w2.setCell ⟨w.heap.size + 1, 0, none⟩ (.int .i64 o)).setCell ⟨w.heap.size + 1, 1, none⟩ (.int .i64 d)).setCell ⟨w.heap.size + 1, 2, none⟩ (.int .i64 n)).setCell ⟨w.heap.size + 1, 3, none⟩ (.int .i64 m)).setCell ⟨w.heap.size + 1, 4, none⟩ (.int .i64 im)).setCell ⟨w.heap.size + 1, 5, none⟩ (.int .i64 c)) (w.heap.size + 1) 24 #[.int .i64 o, .int .i64 d, .int .i64 n, .int .i64 m, .int .i64 im, .int .i64 c] := ((((((((((((KZ2.out).set 0 _)).set 1 _)).set 2 _)).set 3 _)).set 4 _)).set 5 _)
        have HE := Lib.hid ((((((((((((HB2.out).setCell (p := ⟨w.heap.size + 1, 0, none⟩) (Nat.le_succ _) (.int .i64 o))).setCell (p := ⟨w.heap.size + 1, 1, none⟩) (Nat.le_succ _) (.int .i64 d))).setCell (p := ⟨w.heap.size + 1, 2, none⟩) (Nat.le_succ _) (.int .i64 n))).setCell (p := ⟨w.heap.size + 1, 3, none⟩) (Nat.le_succ _) (.int .i64 m))).setCell (p := ⟨w.heap.size + 1, 4, none⟩) (Nat.le_succ _) (.int .i64 im))).setCell (p := ⟨w.heap.size + 1, 5, none⟩) (Nat.le_succ _) (.int .i64 c))
        have KE := Lib.hid KE
        go_wp2_with fail
        try simp only [Exit.inBlock, Exit.then]
        refine bodyPost_ret (results_cell_row rfl _ _ (w.heap.size + 1) 24 #[.int .i64 o, .int .i64 d, .int .i64 n, .int .i64 m, .int .i64 im, .int .i64 c] (0, 0) _ (by rfl) KE.out Try.underlying24 rfl (by rfl)) rfl ?_
        exact ⟨⟨o, d, n, m, im, c⟩, rfl, HE.out⟩
    · go_wp2_with fail
      refine (refRight_c ⟨o, d, n, m, im, c⟩ _).mono ?_
      rintro e w2 ⟨rfl, hb⟩
      have HB2 := Lib.hid (HB.out.trans (hb.mono HB.out.size))
      have k2 := KI.out.only (S := fun _ => False) (Only.of_below hb) id
      have c0 := k2.cell 0
      have c1 := k2.cell 1
      have c2 := k2.cell 2
      have c3 := k2.cell 3
      have c4 := k2.cell 4
      have c5 := k2.cell 5
      simp at c0 c1 c2 c3 c4 c5
      have KI2 := Lib.hid k2
      have KZ2 := Lib.hid (KZ.out.only (S := fun _ => False) (Only.of_below hb) id)
      clear hb k2
      generalize rightS ⟨o, d, n, m, im, c⟩ = u
      cases u
      · go_wp2_with fail
        refine (refRight_c ⟨o, d, 0, 0, im, c⟩ _).mono ?_
        rintro e w3 ⟨rfl, hb⟩
        have HB3 := Lib.hid ((HB2.out.alloc HB2.out.size (.cells #[.int .i64 o, .int .i64 d, .int .i64 0, .int .i64 0, .int .i64 im, .int .i64 c] 24)).trans (hb.mono (HB2.out.alloc HB2.out.size (.cells #[.int .i64 o, .int .i64 d, .int .i64 0, .int .i64 0, .int .i64 im, .int .i64 c] 24)).size))
        have KI3 := Lib.hid ((KI2.out.alloc (.cells #[.int .i64 o, .int .i64 d, .int .i64 0, .int .i64 0, .int .i64 im, .int .i64 c] 24)).only (S := fun _ => False) (Only.of_below hb) id)
        have KZ3 := Lib.hid ((KZ2.out.alloc (.cells #[.int .i64 o, .int .i64 d, .int .i64 0, .int .i64 0, .int .i64 im, .int .i64 c] 24)).only (S := fun _ => False) (Only.of_below hb) id)
        have k3 := (Blk.new w2 24 #[.int .i64 o, .int .i64 d, .int .i64 0, .int .i64 0, .int .i64 im, .int .i64 c]).only (S := fun _ => False) (Only.of_below hb) id
        have j0 := k3.cell 0
        have j1 := k3.cell 1
        have j2 := k3.cell 2
        have j3 := k3.cell 3
        have j4 := k3.cell 4
        have j5 := k3.cell 5
        simp at j0 j1 j2 j3 j4 j5
        clear hb k3 c0 c1 c2 c3 c4 c5
        generalize rightS ⟨o, d, 0, 0, im, c⟩ = u
        cases u
        · go_wp2_with fail
          go_roundw
          case rel => exact ⟨5, _, _, _, _, _, _, by omega, by go_num, KI3.out, KZ3.out, HB3.out⟩
          case measure => simp [intOf]
        · have z0 : w3.cell? ⟨w.heap.size + 1, 0, none⟩ = some (.int .i64 0) := KZ3.out.cell 0
          have z1 : w3.cell? ⟨w.heap.size + 1, 1, none⟩ = some (.int .i64 0) := KZ3.out.cell 1
          have z2 : w3.cell? ⟨w.heap.size + 1, 2, none⟩ = some (.int .i64 0) := KZ3.out.cell 2
          have z3 : w3.cell? ⟨w.heap.size + 1, 3, none⟩ = some (.int .i64 0) := KZ3.out.cell 3
          have z4 : w3.cell? ⟨w.heap.size + 1, 4, none⟩ = some (.int .i64 0) := KZ3.out.cell 4
          have z5 : w3.cell? ⟨w.heap.size + 1, 5, none⟩ = some (.int .i64 0) := KZ3.out.cell 5
          have zf0 : w3.frozen? ⟨w.heap.size + 1, 0, none⟩ = false := KZ3.out.frozen 0
          have zf1 : w3.frozen? ⟨w.heap.size + 1, 1, none⟩ = false := KZ3.out.frozen 1
          have zf2 : w3.frozen? ⟨w.heap.size + 1, 2, none⟩ = false := KZ3.out.frozen 2
          have zf3 : w3.frozen? ⟨w.heap.size + 1, 3, none⟩ = false := KZ3.out.frozen 3
          have zf4 : w3.frozen? ⟨w.heap.size + 1, 4, none⟩ = false := KZ3.out.frozen 4
          have zf5 : w3.frozen? ⟨w.heap.size + 1, 5, none⟩ = false := KZ3.out.frozen 5
          go_wp2_with fail
          have KE : Blk ((((((w3.setCell ⟨w.heap.size + 1, 0, none⟩ (.int .i64 o)).setCell ⟨w.heap.size + 1, 1, none⟩ (.int .i64 d)).setCell ⟨w.heap.size + 1, 2, none⟩ (.int .i64 0)).setCell ⟨w.heap.size + 1, 3, none⟩ (.int .i64 0)).setCell ⟨w.heap.size + 1, 4, none⟩ (.int .i64 im)).setCell ⟨w.heap.size + 1, 5, none⟩ (.int .i64 c)) (w.heap.size + 1) 24 #[.int .i64 o, .int .i64 d, .int .i64 0, .int .i64 0, .int .i64 im, .int .i64 c] := ((((((((((((KZ3.out).set 0 _)).set 1 _)).set 2 _)).set 3 _)).set 4 _)).set 5 _)
          have HE := Lib.hid ((((((((((((HB3.out).setCell (p := ⟨w.heap.size + 1, 0, none⟩) (Nat.le_succ _) (.int .i64 o))).setCell (p := ⟨w.heap.size + 1, 1, none⟩) (Nat.le_succ _) (.int .i64 d))).setCell (p := ⟨w.heap.size + 1, 2, none⟩) (Nat.le_succ _) (.int .i64 0))).setCell (p := ⟨w.heap.size + 1, 3, none⟩) (Nat.le_succ _) (.int .i64 0))).setCell (p := ⟨w.heap.size + 1, 4, none⟩) (Nat.le_succ _) (.int .i64 im))).setCell (p := ⟨w.heap.size + 1, 5, none⟩) (Nat.le_succ _) (.int .i64 c))
          have KE := Lib.hid KE
          go_wp2_with fail
          try simp only [Exit.inBlock, Exit.then]
          refine bodyPost_ret (results_cell_row rfl _ _ (w.heap.size + 1) 24 #[.int .i64 o, .int .i64 d, .int .i64 0, .int .i64 0, .int .i64 im, .int .i64 c] (0, 0) _ (by rfl) KE.out Try.underlying24 rfl (by rfl)) rfl ?_
          exact ⟨⟨o, d, 0, 0, im, c⟩, rfl, HE.out⟩
      · have z0 : w2.cell? ⟨w.heap.size + 1, 0, none⟩ = some (.int .i64 0) := KZ2.out.cell 0
        have z1 : w2.cell? ⟨w.heap.size + 1, 1, none⟩ = some (.int .i64 0) := KZ2.out.cell 1
        have z2 : w2.cell? ⟨w.heap.size + 1, 2, none⟩ = some (.int .i64 0) := KZ2.out.cell 2
        have z3 : w2.cell? ⟨w.heap.size + 1, 3, none⟩ = some (.int .i64 0) := KZ2.out.cell 3
        have z4 : w2.cell? ⟨w.heap.size + 1, 4, none⟩ = some (.int .i64 0) := KZ2.out.cell 4
        have z5 : w2.cell? ⟨w.heap.size + 1, 5, none⟩ = some (.int .i64 0) := KZ2.out.cell 5
        have zf0 : w2.frozen? ⟨w.heap.size + 1, 0, none⟩ = false := KZ2.out.frozen 0
        have zf1 : w2.frozen? ⟨w.heap.size + 1, 1, none⟩ = false := KZ2.out.frozen 1
        have zf2 : w2.frozen? ⟨w.heap.size + 1, 2, none⟩ = false := KZ2.out.frozen 2
        have zf3 : w2.frozen? ⟨w.heap.size + 1, 3, none⟩ = false := KZ2.out.frozen 3
        have zf4 : w2.frozen? ⟨w.heap.size + 1, 4, none⟩ = false := KZ2.out.frozen 4
        have zf5 : w2.frozen? ⟨w.heap.size + 1, 5, none⟩ = false := KZ2.out.frozen 5
        go_wp2_with fail
        have KE : Blk ((((((w2.setCell ⟨w.heap.size + 1, 0, none⟩ (.int .i64 o)).setCell ⟨w.heap.size + 1, 1, none⟩ (.int .i64 d)).setCell ⟨w.heap.size + 1, 2, none⟩ (.int .i64 n)).setCell ⟨w.heap.size + 1, 3, none⟩ (.int .i64 m)).setCell ⟨w.heap.size + 1, 4, none⟩ (.int .i64 im)).setCell ⟨w.heap.size + 1, 5, none⟩ (.int .i64 c)) (w.heap.size + 1) 24 #[.int .i64 o, .int .i64 d, .int .i64 n, .int .i64 m, .int .i64 im, .int .i64 c] := ((((((((((((KZ2.out).set 0 _)).set 1 _)).set 2 _)).set 3 _)).set 4 _)).set 5 _)
        have HE := Lib.hid ((((((((((((HB2.out).setCell (p := ⟨w.heap.size + 1, 0, none⟩) (Nat.le_succ _) (.int .i64 o))).setCell (p := ⟨w.heap.size + 1, 1, none⟩) (Nat.le_succ _) (.int .i64 d))).setCell (p := ⟨w.heap.size + 1, 2, none⟩) (Nat.le_succ _) (.int .i64 n))).setCell (p := ⟨w.heap.size + 1, 3, none⟩) (Nat.le_succ _) (.int .i64 m))).setCell (p := ⟨w.heap.size + 1, 4, none⟩) (Nat.le_succ _) (.int .i64 im))).setCell (p := ⟨w.heap.size + 1, 5, none⟩) (Nat.le_succ _) (.int .i64 c))
        have KE := Lib.hid KE
        go_wp2_with fail
        try simp only [Exit.inBlock, Exit.then]
        refine bodyPost_ret (results_cell_row rfl _ _ (w.heap.size + 1) 24 #[.int .i64 o, .int .i64 d, .int .i64 n, .int .i64 m, .int .i64 im, .int .i64 c] (0, 0) _ (by rfl) KE.out Try.underlying24 rfl (by rfl)) rfl ?_
        exact ⟨⟨o, d, n, m, im, c⟩, rfl, HE.out⟩
    · have z0 : wr.cell? ⟨w.heap.size + 1, 0, none⟩ = some (.int .i64 0) := KZ.out.cell 0
      have z1 : wr.cell? ⟨w.heap.size + 1, 1, none⟩ = some (.int .i64 0) := KZ.out.cell 1
      have z2 : wr.cell? ⟨w.heap.size + 1, 2, none⟩ = some (.int .i64 0) := KZ.out.cell 2
      have z3 : wr.cell? ⟨w.heap.size + 1, 3, none⟩ = some (.int .i64 0) := KZ.out.cell 3
      have z4 : wr.cell? ⟨w.heap.size + 1, 4, none⟩ = some (.int .i64 0) := KZ.out.cell 4
      have z5 : wr.cell? ⟨w.heap.size + 1, 5, none⟩ = some (.int .i64 0) := KZ.out.cell 5
      have zf0 : wr.frozen? ⟨w.heap.size + 1, 0, none⟩ = false := KZ.out.frozen 0
      have zf1 : wr.frozen? ⟨w.heap.size + 1, 1, none⟩ = false := KZ.out.frozen 1
      have zf2 : wr.frozen? ⟨w.heap.size + 1, 2, none⟩ = false := KZ.out.frozen 2
      have zf3 : wr.frozen? ⟨w.heap.size + 1, 3, none⟩ = false := KZ.out.frozen 3
      have zf4 : wr.frozen? ⟨w.heap.size + 1, 4, none⟩ = false := KZ.out.frozen 4
      have zf5 : wr.frozen? ⟨w.heap.size + 1, 5, none⟩ = false := KZ.out.frozen 5
      go_wp2_with fail
      have KE : Blk ((((((wr.setCell ⟨w.heap.size + 1, 0, none⟩ (.int .i64 o)).setCell ⟨w.heap.size + 1, 1, none⟩ (.int .i64 d)).setCell ⟨w.heap.size + 1, 2, none⟩ (.int .i64 n)).setCell ⟨w.heap.size + 1, 3, none⟩ (.int .i64 m)).setCell ⟨w.heap.size + 1, 4, none⟩ (.int .i64 im)).setCell ⟨w.heap.size + 1, 5, none⟩ (.int .i64 c)) (w.heap.size + 1) 24 #[.int .i64 o, .int .i64 d, .int .i64 n, .int .i64 m, .int .i64 im, .int .i64 c] := ((((((((((((KZ.out).set 0 _)).set 1 _)).set 2 _)).set 3 _)).set 4 _)).set 5 _)
      have HE := Lib.hid ((((((((((((HB.out).setCell (p := ⟨w.heap.size + 1, 0, none⟩) (Nat.le_succ _) (.int .i64 o))).setCell (p := ⟨w.heap.size + 1, 1, none⟩) (Nat.le_succ _) (.int .i64 d))).setCell (p := ⟨w.heap.size + 1, 2, none⟩) (Nat.le_succ _) (.int .i64 n))).setCell (p := ⟨w.heap.size + 1, 3, none⟩) (Nat.le_succ _) (.int .i64 m))).setCell (p := ⟨w.heap.size + 1, 4, none⟩) (Nat.le_succ _) (.int .i64 im))).setCell (p := ⟨w.heap.size + 1, 5, none⟩) (Nat.le_succ _) (.int .i64 c))
      have KE := Lib.hid KE
      go_wp2_with fail
      try simp only [Exit.inBlock, Exit.then]
      refine bodyPost_ret (results_cell_row rfl _ _ (w.heap.size + 1) 24 #[.int .i64 o, .int .i64 d, .int .i64 n, .int .i64 m, .int .i64 im, .int .i64 c] (0, 0) _ (by rfl) KE.out Try.underlying24 rfl (by rfl)) rfl ?_
      exact ⟨⟨o, d, n, m, im, c⟩, rfl, HE.out⟩
end Go.Proofs.Ytpcjkllhieiiiaa
