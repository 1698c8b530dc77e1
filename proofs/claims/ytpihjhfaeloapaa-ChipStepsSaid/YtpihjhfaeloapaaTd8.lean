/- ref14.Decode, arm by arm. -/
import Derived.Test.YtpihjhfaeloapaaVq
namespace Go.Proofs.Ytpihjhfaeloapaa
open Go.RowKit On Th
set_option maxHeartbeats 16000000 in
set_option maxRecDepth 100000 in
theorem refDec_arm20 (g o n c : Nat) (a : Int) (w : World) (hn : 1 ≤ n) (ca : w.cell? ⟨g, o, none⟩ = some (.int .u16 a)) (h1 : a / 2048 ≠ 30) (ha : 0 ≤ a) (ha' : a < 65536) (g0 : ¬ (a < 6144)) (g1 : ¬ (a < 7168)) (g2 : ¬ (a < 8192)) (g3 : ¬ (a < 16384)) (g4 : ¬ (a < 17408)) (g5 : ¬ (a / 256 = 70)) (g6 : ¬ (a / 512 = 40)) (g7 : ¬ (a / 512 = 44)) (g8 : ¬ (a / 2048 = 12)) (g9 : ¬ (a / 2048 = 13)) (g10 : ¬ (a / 2048 = 14)) (g11 : ¬ (a / 2048 = 15)) (g12 : ¬ (a / 2048 = 18)) (g13 : ¬ (a / 2048 = 19)) (g14 : ¬ (a / 128 = 352)) (g15 : ¬ (a / 128 = 353)) (g16 : ¬ (a / 512 = 90)) (g17 : ¬ (a / 512 = 94)) (g18 : ¬ (a = 48896)) (g19 : ¬ ((a / 4096 = 13 ∧ a / 256 % 16 < 14))) (g20 : a / 256 = 223) :
    Calls Try.prog 42 #[.slice (some ⟨g, o, none⟩) n c] w fun e w' => ∃ k : Int, ∃ i : Ins, e = .returned (.tuple #[.agg #[.int .i64 i.op, .int .i64 i.d, .int .i64 i.n, .int .i64 i.m, .int .i64 i.imm, .int .i64 i.cond], .int .i64 k]) ∧ Below w.heap.size w w' ∧ RefOne a k i := by
  have ca' : (w.alloc (.cells #[.int .i64 0, .int .i64 0, .int .i64 0, .int .i64 0, .int .i64 0, .int .i64 0] 36)).cell? ⟨g, o, none⟩ = some (.int .u16 a) := cell_new ca
  have hn1 : (0 : Int) < (n : Int) := by omega
  have b1 : (a / 2048 == 30) = false := by simpa using h1
  have t8 : a.tmod 8 = a % 8 := Int.tmod_eq_emod_of_nonneg ha
  have c0 : 6144 ≤ a := by omega
  have c1 : 7168 ≤ a := by omega
  have c2 : 8192 ≤ a := by omega
  have c3 : 16384 ≤ a := by omega
  have c4 : 17408 ≤ a := by omega
  have c5 : (a / 256 == 70) = false := by simp; omega
  have c6 : (a / 512 == 40) = false := by simp; omega
  have c7 : (a / 512 == 44) = false := by simp; omega
  have c8 : (a / 2048 == 12) = false := by simp; omega
  have c9 : (a / 2048 == 13) = false := by simp; omega
  have c10 : (a / 2048 == 14) = false := by simp; omega
  have c11 : (a / 2048 == 15) = false := by simp; omega
  have c12 : (a / 2048 == 18) = false := by simp; omega
  have c13 : (a / 2048 == 19) = false := by simp; omega
  have c14 : (a / 128 == 352) = false := by simp; omega
  have c15 : (a / 128 == 353) = false := by simp; omega
  have c16 : (a / 512 == 90) = false := by simp; omega
  have c17 : (a / 512 == 94) = false := by simp; omega
  have c18 : (a == 48896) = false := by simp; omega
  have q14 : bits .and .i64 (a / 256) 15 = a / 256 % 16 := i64_m15' _
  have c20 : (a / 256 == 223) = true := by simp; omega
  have H1 := Lib.hid h1
  have P0 := Lib.hid g0
  have P1 := Lib.hid g1
  have P2 := Lib.hid g2
  have P3 := Lib.hid g3
  have P4 := Lib.hid g4
  have P5 := Lib.hid g5
  have P6 := Lib.hid g6
  have P7 := Lib.hid g7
  have P8 := Lib.hid g8
  have P9 := Lib.hid g9
  have P10 := Lib.hid g10
  have P11 := Lib.hid g11
  have P12 := Lib.hid g12
  have P13 := Lib.hid g13
  have P14 := Lib.hid g14
  have P15 := Lib.hid g15
  have P16 := Lib.hid g16
  have P17 := Lib.hid g17
  have P18 := Lib.hid g18
  have P19 := Lib.hid g19
  have P20 := Lib.hid g20
  clear h1 g0 g1 g2 g3 g4 g5 g6 g7 g8 g9 g10 g11 g12 g13 g14 g15 g16 g17 g18 g19 g20
  obtain ⟨q0, q1, q2, q3, q4, q5, q6, q7, q8, q9, q10, q11, q12⟩ := qf13 a
  have u3 := sgn8_eq (a % 256) (by omega) (by omega)
  have u4 := sgn11_eq (a % 2048) (by omega) (by omega)
  obtain ⟨v1, v2⟩ := signS_range (a % 256) 256 (by omega) (by omega)
  obtain ⟨v3, v4⟩ := signS_range (a % 2048) 2048 (by omega) (by omega)
  have HE0 : Hid (decR1 a = ⟨44, 0, 0, 0, a % 256, 0⟩) := by
    show decR1 a = _
    unfold decR1
    rw [if_neg P0.out, if_neg P1.out, if_neg P2.out, if_neg P3.out, if_neg P4.out, if_neg P5.out, if_neg P6.out, if_neg P7.out, if_neg P8.out, if_neg P9.out, if_neg P10.out, if_neg P11.out, if_neg P12.out, if_neg P13.out, if_neg P14.out, if_neg P15.out, if_neg P16.out, if_neg P17.out, if_neg P18.out, if_neg P19.out, if_pos P20.out]
  have c19 : (a / 4096 == 13) = true := by have := P20.out; simp; omega
  have c19' : 14 ≤ a / 256 % 16 := by have := P20.out; omega
  have KZ : Hid (Blk ((w.alloc (.cells #[.int .i64 0, .int .i64 0, .int .i64 0, .int .i64 0, .int .i64 0, .int .i64 0] 36)).alloc (.cells #[.int .i64 44, .int .i64 0, .int .i64 0, .int .i64 0, .int .i64 (a % 256), .int .i64 0] 36)) w.heap.size 36 #[.int .i64 0, .int .i64 0, .int .i64 0, .int .i64 0, .int .i64 0, .int .i64 0]) := (Blk.new _ _ _).alloc _
  have KI : Hid (Blk ((w.alloc (.cells #[.int .i64 0, .int .i64 0, .int .i64 0, .int .i64 0, .int .i64 0, .int .i64 0] 36)).alloc (.cells #[.int .i64 44, .int .i64 0, .int .i64 0, .int .i64 0, .int .i64 (a % 256), .int .i64 0] 36)) (w.heap.size + 1) 36 #[.int .i64 44, .int .i64 0, .int .i64 0, .int .i64 0, .int .i64 (a % 256), .int .i64 0]) := Blk.new' _ _ _ _ (by simp only [World.size_alloc])
  have HB : Hid (Below w.heap.size w ((w.alloc (.cells #[.int .i64 0, .int .i64 0, .int .i64 0, .int .i64 0, .int .i64 0, .int .i64 0] 36)).alloc (.cells #[.int .i64 44, .int .i64 0, .int .i64 0, .int .i64 0, .int .i64 (a % 256), .int .i64 0] 36))) := ((Below.refl _ _).alloc (Nat.le_refl _) _).alloc (by simp) _
  go_enter Try.func42, Try.ntmps42
  go_wp2_with (first | (go_at_call 67; (first | (with_reducible refine (sign_8 _ _).mono ?_) | (with_reducible refine (sign_11 _ _).mono ?_)); rintro e w' ⟨rfl, rfl⟩; (try rw [u3]); (try rw [u4])))
  refine (refRight_c ⟨44, 0, 0, 0, (a % 256), 0⟩ _).mono ?_
  rintro e w2 ⟨rfl, hb⟩
  have HB2 := Lib.hid (HB.out.trans (hb.mono HB.out.size))
  have KZ2 := Lib.hid (KZ.out.only (S := fun _ => False) (Only.of_below hb) id)
  have ki := Blk.six (KI.out.only (S := fun _ => False) (Only.of_below hb) id)
  clear hb
  obtain ⟨z0, z1, z2, z3, z4, z5, zf0, zf1, zf2, zf3, zf4, zf5⟩ := six12 KZ2.out
  cases hr : rightS ⟨44, 0, 0, 0, (a % 256), 0⟩
  · have HRR := Lib.hid hr
    clear hr
    go_wp2_with fail
    have KE : Blk ((((((w2.setCell ⟨w.heap.size, 0, none⟩ (.int .i64 0)).setCell ⟨w.heap.size, 1, none⟩ (.int .i64 0)).setCell ⟨w.heap.size, 2, none⟩ (.int .i64 0)).setCell ⟨w.heap.size, 3, none⟩ (.int .i64 0)).setCell ⟨w.heap.size, 4, none⟩ (.int .i64 0)).setCell ⟨w.heap.size, 5, none⟩ (.int .i64 0)) w.heap.size 36 #[.int .i64 0, .int .i64 0, .int .i64 0, .int .i64 0, .int .i64 0, .int .i64 0] := ((((((((((((KZ2.out).set 0 _)).set 1 _)).set 2 _)).set 3 _)).set 4 _)).set 5 _)
    have ke := Blk.six KE
    have HE := Lib.hid ((((((((((((HB2.out).setCell (p := ⟨w.heap.size, 0, none⟩) (Nat.le_refl _) (.int .i64 0))).setCell (p := ⟨w.heap.size, 1, none⟩) (Nat.le_refl _) (.int .i64 0))).setCell (p := ⟨w.heap.size, 2, none⟩) (Nat.le_refl _) (.int .i64 0))).setCell (p := ⟨w.heap.size, 3, none⟩) (Nat.le_refl _) (.int .i64 0))).setCell (p := ⟨w.heap.size, 4, none⟩) (Nat.le_refl _) (.int .i64 0))).setCell (p := ⟨w.heap.size, 5, none⟩) (Nat.le_refl _) (.int .i64 0))
    clear KE
    go_wp2_with fail
    refine bodyPost_ret (v := .tuple #[.agg #[.int .i64 0, .int .i64 0, .int .i64 0, .int .i64 0, .int .i64 0, .int .i64 0], .int .i64 (-1)]) (by rw [results_cell_tmp rfl]; go_simp) rfl ?_
    exact ⟨_, ⟨0, 0, 0, 0, 0, 0⟩, rfl, HE.out, by unfold RefOne; rw [HE0.out, HRR.out]; rfl⟩
  · have HRR := Lib.hid hr
    clear hr
    go_wp2_with fail
    have KE : Blk ((((((w2.setCell ⟨w.heap.size, 0, none⟩ (.int .i64 44)).setCell ⟨w.heap.size, 1, none⟩ (.int .i64 0)).setCell ⟨w.heap.size, 2, none⟩ (.int .i64 0)).setCell ⟨w.heap.size, 3, none⟩ (.int .i64 0)).setCell ⟨w.heap.size, 4, none⟩ (.int .i64 (a % 256))).setCell ⟨w.heap.size, 5, none⟩ (.int .i64 0)) w.heap.size 36 #[.int .i64 44, .int .i64 0, .int .i64 0, .int .i64 0, .int .i64 (a % 256), .int .i64 0] := ((((((((((((KZ2.out).set 0 _)).set 1 _)).set 2 _)).set 3 _)).set 4 _)).set 5 _)
    have ke := Blk.six KE
    have HE := Lib.hid ((((((((((((HB2.out).setCell (p := ⟨w.heap.size, 0, none⟩) (Nat.le_refl _) (.int .i64 44))).setCell (p := ⟨w.heap.size, 1, none⟩) (Nat.le_refl _) (.int .i64 0))).setCell (p := ⟨w.heap.size, 2, none⟩) (Nat.le_refl _) (.int .i64 0))).setCell (p := ⟨w.heap.size, 3, none⟩) (Nat.le_refl _) (.int .i64 0))).setCell (p := ⟨w.heap.size, 4, none⟩) (Nat.le_refl _) (.int .i64 (a % 256)))).setCell (p := ⟨w.heap.size, 5, none⟩) (Nat.le_refl _) (.int .i64 0))
    clear KE
    go_wp2_with fail
    refine bodyPost_ret (v := .tuple #[.agg #[.int .i64 44, .int .i64 0, .int .i64 0, .int .i64 0, .int .i64 (a % 256), .int .i64 0], .int .i64 1]) (by rw [results_cell_tmp rfl]; go_simp) rfl ?_
    exact ⟨_, ⟨44, 0, 0, 0, (a % 256), 0⟩, rfl, HE.out, by unfold RefOne; rw [HE0.out, HRR.out]; rfl⟩
set_option maxHeartbeats 16000000 in
set_option maxRecDepth 100000 in
theorem refDec_arm21 (g o n c : Nat) (a : Int) (w : World) (hn : 1 ≤ n) (ca : w.cell? ⟨g, o, none⟩ = some (.int .u16 a)) (h1 : a / 2048 ≠ 30) (ha : 0 ≤ a) (ha' : a < 65536) (g0 : ¬ (a < 6144)) (g1 : ¬ (a < 7168)) (g2 : ¬ (a < 8192)) (g3 : ¬ (a < 16384)) (g4 : ¬ (a < 17408)) (g5 : ¬ (a / 256 = 70)) (g6 : ¬ (a / 512 = 40)) (g7 : ¬ (a / 512 = 44)) (g8 : ¬ (a / 2048 = 12)) (g9 : ¬ (a / 2048 = 13)) (g10 : ¬ (a / 2048 = 14)) (g11 : ¬ (a / 2048 = 15)) (g12 : ¬ (a / 2048 = 18)) (g13 : ¬ (a / 2048 = 19)) (g14 : ¬ (a / 128 = 352)) (g15 : ¬ (a / 128 = 353)) (g16 : ¬ (a / 512 = 90)) (g17 : ¬ (a / 512 = 94)) (g18 : ¬ (a = 48896)) (g19 : ¬ ((a / 4096 = 13 ∧ a / 256 % 16 < 14))) (g20 : ¬ (a / 256 = 223)) (g21 : a / 2048 = 28) :
    Calls Try.prog 42 #[.slice (some ⟨g, o, none⟩) n c] w fun e w' => ∃ k : Int, ∃ i : Ins, e = .returned (.tuple #[.agg #[.int .i64 i.op, .int .i64 i.d, .int .i64 i.n, .int .i64 i.m, .int .i64 i.imm, .int .i64 i.cond], .int .i64 k]) ∧ Below w.heap.size w w' ∧ RefOne a k i := by
  have ca' : (w.alloc (.cells #[.int .i64 0, .int .i64 0, .int .i64 0, .int .i64 0, .int .i64 0, .int .i64 0] 36)).cell? ⟨g, o, none⟩ = some (.int .u16 a) := cell_new ca
  have hn1 : (0 : Int) < (n : Int) := by omega
  have b1 : (a / 2048 == 30) = false := by simpa using h1
  have t8 : a.tmod 8 = a % 8 := Int.tmod_eq_emod_of_nonneg ha
  have c0 : 6144 ≤ a := by omega
  have c1 : 7168 ≤ a := by omega
  have c2 : 8192 ≤ a := by omega
  have c3 : 16384 ≤ a := by omega
  have c4 : 17408 ≤ a := by omega
  have c5 : (a / 256 == 70) = false := by simp; omega
  have c6 : (a / 512 == 40) = false := by simp; omega
  have c7 : (a / 512 == 44) = false := by simp; omega
  have c8 : (a / 2048 == 12) = false := by simp; omega
  have c9 : (a / 2048 == 13) = false := by simp; omega
  have c10 : (a / 2048 == 14) = false := by simp; omega
  have c11 : (a / 2048 == 15) = false := by simp; omega
  have c12 : (a / 2048 == 18) = false := by simp; omega
  have c13 : (a / 2048 == 19) = false := by simp; omega
  have c14 : (a / 128 == 352) = false := by simp; omega
  have c15 : (a / 128 == 353) = false := by simp; omega
  have c16 : (a / 512 == 90) = false := by simp; omega
  have c17 : (a / 512 == 94) = false := by simp; omega
  have c18 : (a == 48896) = false := by simp; omega
  have q14 : bits .and .i64 (a / 256) 15 = a / 256 % 16 := i64_m15' _
  have c20 : (a / 256 == 223) = false := by simp; omega
  have c21 : (a / 2048 == 28) = true := by simp; omega
  have H1 := Lib.hid h1
  have P0 := Lib.hid g0
  have P1 := Lib.hid g1
  have P2 := Lib.hid g2
  have P3 := Lib.hid g3
  have P4 := Lib.hid g4
  have P5 := Lib.hid g5
  have P6 := Lib.hid g6
  have P7 := Lib.hid g7
  have P8 := Lib.hid g8
  have P9 := Lib.hid g9
  have P10 := Lib.hid g10
  have P11 := Lib.hid g11
  have P12 := Lib.hid g12
  have P13 := Lib.hid g13
  have P14 := Lib.hid g14
  have P15 := Lib.hid g15
  have P16 := Lib.hid g16
  have P17 := Lib.hid g17
  have P18 := Lib.hid g18
  have P19 := Lib.hid g19
  have P20 := Lib.hid g20
  have P21 := Lib.hid g21
  clear h1 g0 g1 g2 g3 g4 g5 g6 g7 g8 g9 g10 g11 g12 g13 g14 g15 g16 g17 g18 g19 g20 g21
  obtain ⟨q0, q1, q2, q3, q4, q5, q6, q7, q8, q9, q10, q11, q12⟩ := qf13 a
  have u3 := sgn8_eq (a % 256) (by omega) (by omega)
  have u4 := sgn11_eq (a % 2048) (by omega) (by omega)
  obtain ⟨v1, v2⟩ := signS_range (a % 256) 256 (by omega) (by omega)
  obtain ⟨v3, v4⟩ := signS_range (a % 2048) 2048 (by omega) (by omega)
  have HE0 : Hid (decR1 a = ⟨42, 0, 0, 0, 2 * signS (a % 2048) 2048, 0⟩) := by
    show decR1 a = _
    unfold decR1
    rw [if_neg P0.out, if_neg P1.out, if_neg P2.out, if_neg P3.out, if_neg P4.out, if_neg P5.out, if_neg P6.out, if_neg P7.out, if_neg P8.out, if_neg P9.out, if_neg P10.out, if_neg P11.out, if_neg P12.out, if_neg P13.out, if_neg P14.out, if_neg P15.out, if_neg P16.out, if_neg P17.out, if_neg P18.out, if_neg P19.out, if_neg P20.out, if_pos P21.out]
  have c19 : (a / 4096 == 13) = false := by have := P21.out; simp; omega
  have KZ : Hid (Blk ((w.alloc (.cells #[.int .i64 0, .int .i64 0, .int .i64 0, .int .i64 0, .int .i64 0, .int .i64 0] 36)).alloc (.cells #[.int .i64 42, .int .i64 0, .int .i64 0, .int .i64 0, .int .i64 (2 * signS (a % 2048) 2048), .int .i64 0] 36)) w.heap.size 36 #[.int .i64 0, .int .i64 0, .int .i64 0, .int .i64 0, .int .i64 0, .int .i64 0]) := (Blk.new _ _ _).alloc _
  have KI : Hid (Blk ((w.alloc (.cells #[.int .i64 0, .int .i64 0, .int .i64 0, .int .i64 0, .int .i64 0, .int .i64 0] 36)).alloc (.cells #[.int .i64 42, .int .i64 0, .int .i64 0, .int .i64 0, .int .i64 (2 * signS (a % 2048) 2048), .int .i64 0] 36)) (w.heap.size + 1) 36 #[.int .i64 42, .int .i64 0, .int .i64 0, .int .i64 0, .int .i64 (2 * signS (a % 2048) 2048), .int .i64 0]) := Blk.new' _ _ _ _ (by simp only [World.size_alloc])
  have HB : Hid (Below w.heap.size w ((w.alloc (.cells #[.int .i64 0, .int .i64 0, .int .i64 0, .int .i64 0, .int .i64 0, .int .i64 0] 36)).alloc (.cells #[.int .i64 42, .int .i64 0, .int .i64 0, .int .i64 0, .int .i64 (2 * signS (a % 2048) 2048), .int .i64 0] 36))) := ((Below.refl _ _).alloc (Nat.le_refl _) _).alloc (by simp) _
  go_enter Try.func42, Try.ntmps42
  go_wp2_with (first | (go_at_call 67; (first | (with_reducible refine (sign_8 _ _).mono ?_) | (with_reducible refine (sign_11 _ _).mono ?_)); rintro e w' ⟨rfl, rfl⟩; (try rw [u3]); (try rw [u4])))
  refine (refRight_c ⟨42, 0, 0, 0, (2 * signS (a % 2048) 2048), 0⟩ _).mono ?_
  rintro e w2 ⟨rfl, hb⟩
  have HB2 := Lib.hid (HB.out.trans (hb.mono HB.out.size))
  have KZ2 := Lib.hid (KZ.out.only (S := fun _ => False) (Only.of_below hb) id)
  have ki := Blk.six (KI.out.only (S := fun _ => False) (Only.of_below hb) id)
  clear hb
  obtain ⟨z0, z1, z2, z3, z4, z5, zf0, zf1, zf2, zf3, zf4, zf5⟩ := six12 KZ2.out
  cases hr : rightS ⟨42, 0, 0, 0, (2 * signS (a % 2048) 2048), 0⟩
  · have HRR := Lib.hid hr
    clear hr
    go_wp2_with fail
    have KE : Blk ((((((w2.setCell ⟨w.heap.size, 0, none⟩ (.int .i64 0)).setCell ⟨w.heap.size, 1, none⟩ (.int .i64 0)).setCell ⟨w.heap.size, 2, none⟩ (.int .i64 0)).setCell ⟨w.heap.size, 3, none⟩ (.int .i64 0)).setCell ⟨w.heap.size, 4, none⟩ (.int .i64 0)).setCell ⟨w.heap.size, 5, none⟩ (.int .i64 0)) w.heap.size 36 #[.int .i64 0, .int .i64 0, .int .i64 0, .int .i64 0, .int .i64 0, .int .i64 0] := ((((((((((((KZ2.out).set 0 _)).set 1 _)).set 2 _)).set 3 _)).set 4 _)).set 5 _)
    have ke := Blk.six KE
    have HE := Lib.hid ((((((((((((HB2.out).setCell (p := ⟨w.heap.size, 0, none⟩) (Nat.le_refl _) (.int .i64 0))).setCell (p := ⟨w.heap.size, 1, none⟩) (Nat.le_refl _) (.int .i64 0))).setCell (p := ⟨w.heap.size, 2, none⟩) (Nat.le_refl _) (.int .i64 0))).setCell (p := ⟨w.heap.size, 3, none⟩) (Nat.le_refl _) (.int .i64 0))).setCell (p := ⟨w.heap.size, 4, none⟩) (Nat.le_refl _) (.int .i64 0))).setCell (p := ⟨w.heap.size, 5, none⟩) (Nat.le_refl _) (.int .i64 0))
    clear KE
    go_wp2_with fail
    refine bodyPost_ret (v := .tuple #[.agg #[.int .i64 0, .int .i64 0, .int .i64 0, .int .i64 0, .int .i64 0, .int .i64 0], .int .i64 (-1)]) (by rw [results_cell_tmp rfl]; go_simp) rfl ?_
    exact ⟨_, ⟨0, 0, 0, 0, 0, 0⟩, rfl, HE.out, by unfold RefOne; rw [HE0.out, HRR.out]; rfl⟩
  · have HRR := Lib.hid hr
    clear hr
    go_wp2_with fail
    have KE : Blk ((((((w2.setCell ⟨w.heap.size, 0, none⟩ (.int .i64 42)).setCell ⟨w.heap.size, 1, none⟩ (.int .i64 0)).setCell ⟨w.heap.size, 2, none⟩ (.int .i64 0)).setCell ⟨w.heap.size, 3, none⟩ (.int .i64 0)).setCell ⟨w.heap.size, 4, none⟩ (.int .i64 (2 * signS (a % 2048) 2048))).setCell ⟨w.heap.size, 5, none⟩ (.int .i64 0)) w.heap.size 36 #[.int .i64 42, .int .i64 0, .int .i64 0, .int .i64 0, .int .i64 (2 * signS (a % 2048) 2048), .int .i64 0] := ((((((((((((KZ2.out).set 0 _)).set 1 _)).set 2 _)).set 3 _)).set 4 _)).set 5 _)
    have ke := Blk.six KE
    have HE := Lib.hid ((((((((((((HB2.out).setCell (p := ⟨w.heap.size, 0, none⟩) (Nat.le_refl _) (.int .i64 42))).setCell (p := ⟨w.heap.size, 1, none⟩) (Nat.le_refl _) (.int .i64 0))).setCell (p := ⟨w.heap.size, 2, none⟩) (Nat.le_refl _) (.int .i64 0))).setCell (p := ⟨w.heap.size, 3, none⟩) (Nat.le_refl _) (.int .i64 0))).setCell (p := ⟨w.heap.size, 4, none⟩) (Nat.le_refl _) (.int .i64 (2 * signS (a % 2048) 2048)))).setCell (p := ⟨w.heap.size, 5, none⟩) (Nat.le_refl _) (.int .i64 0))
    clear KE
    go_wp2_with fail
    refine bodyPost_ret (v := .tuple #[.agg #[.int .i64 42, .int .i64 0, .int .i64 0, .int .i64 0, .int .i64 (2 * signS (a % 2048) 2048), .int .i64 0], .int .i64 1]) (by rw [results_cell_tmp rfl]; go_simp) rfl ?_
    exact ⟨_, ⟨42, 0, 0, 0, (2 * signS (a % 2048) 2048), 0⟩, rfl, HE.out, by unfold RefOne; rw [HE0.out, HRR.out]; rfl⟩
set_option maxHeartbeats 16000000 in
set_option maxRecDepth 100000 in
theorem refDec_arm22 (g o n c : Nat) (a : Int) (w : World) (hn : 1 ≤ n) (ca : w.cell? ⟨g, o, none⟩ = some (.int .u16 a)) (h1 : a / 2048 ≠ 30) (ha : 0 ≤ a) (ha' : a < 65536) (g0 : ¬ (a < 6144)) (g1 : ¬ (a < 7168)) (g2 : ¬ (a < 8192)) (g3 : ¬ (a < 16384)) (g4 : ¬ (a < 17408)) (g5 : ¬ (a / 256 = 70)) (g6 : ¬ (a / 512 = 40)) (g7 : ¬ (a / 512 = 44)) (g8 : ¬ (a / 2048 = 12)) (g9 : ¬ (a / 2048 = 13)) (g10 : ¬ (a / 2048 = 14)) (g11 : ¬ (a / 2048 = 15)) (g12 : ¬ (a / 2048 = 18)) (g13 : ¬ (a / 2048 = 19)) (g14 : ¬ (a / 128 = 352)) (g15 : ¬ (a / 128 = 353)) (g16 : ¬ (a / 512 = 90)) (g17 : ¬ (a / 512 = 94)) (g18 : ¬ (a = 48896)) (g19 : ¬ ((a / 4096 = 13 ∧ a / 256 % 16 < 14))) (g20 : ¬ (a / 256 = 223)) (g21 : ¬ (a / 2048 = 28)) :
    Calls Try.prog 42 #[.slice (some ⟨g, o, none⟩) n c] w fun e w' => ∃ k : Int, ∃ i : Ins, e = .returned (.tuple #[.agg #[.int .i64 i.op, .int .i64 i.d, .int .i64 i.n, .int .i64 i.m, .int .i64 i.imm, .int .i64 i.cond], .int .i64 k]) ∧ Below w.heap.size w w' ∧ RefOne a k i := by
  have ca' : (w.alloc (.cells #[.int .i64 0, .int .i64 0, .int .i64 0, .int .i64 0, .int .i64 0, .int .i64 0] 36)).cell? ⟨g, o, none⟩ = some (.int .u16 a) := cell_new ca
  have hn1 : (0 : Int) < (n : Int) := by omega
  have b1 : (a / 2048 == 30) = false := by simpa using h1
  have t8 : a.tmod 8 = a % 8 := Int.tmod_eq_emod_of_nonneg ha
  have c0 : 6144 ≤ a := by omega
  have c1 : 7168 ≤ a := by omega
  have c2 : 8192 ≤ a := by omega
  have c3 : 16384 ≤ a := by omega
  have c4 : 17408 ≤ a := by omega
  have c5 : (a / 256 == 70) = false := by simp; omega
  have c6 : (a / 512 == 40) = false := by simp; omega
  have c7 : (a / 512 == 44) = false := by simp; omega
  have c8 : (a / 2048 == 12) = false := by simp; omega
  have c9 : (a / 2048 == 13) = false := by simp; omega
  have c10 : (a / 2048 == 14) = false := by simp; omega
  have c11 : (a / 2048 == 15) = false := by simp; omega
  have c12 : (a / 2048 == 18) = false := by simp; omega
  have c13 : (a / 2048 == 19) = false := by simp; omega
  have c14 : (a / 128 == 352) = false := by simp; omega
  have c15 : (a / 128 == 353) = false := by simp; omega
  have c16 : (a / 512 == 90) = false := by simp; omega
  have c17 : (a / 512 == 94) = false := by simp; omega
  have c18 : (a == 48896) = false := by simp; omega
  have q14 : bits .and .i64 (a / 256) 15 = a / 256 % 16 := i64_m15' _
  have c20 : (a / 256 == 223) = false := by simp; omega
  have c21 : (a / 2048 == 28) = false := by simp; omega
  have H1 := Lib.hid h1
  have P0 := Lib.hid g0
  have P1 := Lib.hid g1
  have P2 := Lib.hid g2
  have P3 := Lib.hid g3
  have P4 := Lib.hid g4
  have P5 := Lib.hid g5
  have P6 := Lib.hid g6
  have P7 := Lib.hid g7
  have P8 := Lib.hid g8
  have P9 := Lib.hid g9
  have P10 := Lib.hid g10
  have P11 := Lib.hid g11
  have P12 := Lib.hid g12
  have P13 := Lib.hid g13
  have P14 := Lib.hid g14
  have P15 := Lib.hid g15
  have P16 := Lib.hid g16
  have P17 := Lib.hid g17
  have P18 := Lib.hid g18
  have P19 := Lib.hid g19
  have P20 := Lib.hid g20
  have P21 := Lib.hid g21
  clear h1 g0 g1 g2 g3 g4 g5 g6 g7 g8 g9 g10 g11 g12 g13 g14 g15 g16 g17 g18 g19 g20 g21
  obtain ⟨q0, q1, q2, q3, q4, q5, q6, q7, q8, q9, q10, q11, q12⟩ := qf13 a
  have u3 := sgn8_eq (a % 256) (by omega) (by omega)
  have u4 := sgn11_eq (a % 2048) (by omega) (by omega)
  obtain ⟨v1, v2⟩ := signS_range (a % 256) 256 (by omega) (by omega)
  obtain ⟨v3, v4⟩ := signS_range (a % 2048) 2048 (by omega) (by omega)
  have HE0 : Hid (decR1 a = ⟨0, 0, 0, 0, 0, 0⟩) := by
    show decR1 a = _
    unfold decR1
    rw [if_neg P0.out, if_neg P1.out, if_neg P2.out, if_neg P3.out, if_neg P4.out, if_neg P5.out, if_neg P6.out, if_neg P7.out, if_neg P8.out, if_neg P9.out, if_neg P10.out, if_neg P11.out, if_neg P12.out, if_neg P13.out, if_neg P14.out, if_neg P15.out, if_neg P16.out, if_neg P17.out, if_neg P18.out, if_neg P19.out, if_neg P20.out, if_neg P21.out]
  rcases ((by
    have := P19.out
    by_cases h : a / 4096 = 13
    · exact .inr ⟨by simp [h], by omega⟩
    · exact .inl (by simp [h])) : ((a / 4096 == 13) = false) ∨ ((a / 4096 == 13) = true ∧ 14 ≤ a / 256 % 16)) with c19 | ⟨c19, c19'⟩
  all_goals
    have KZ : Hid (Blk ((w.alloc (.cells #[.int .i64 0, .int .i64 0, .int .i64 0, .int .i64 0, .int .i64 0, .int .i64 0] 36)).alloc (.cells #[.int .i64 0, .int .i64 0, .int .i64 0, .int .i64 0, .int .i64 0, .int .i64 0] 36)) w.heap.size 36 #[.int .i64 0, .int .i64 0, .int .i64 0, .int .i64 0, .int .i64 0, .int .i64 0]) := (Blk.new _ _ _).alloc _
    have KI : Hid (Blk ((w.alloc (.cells #[.int .i64 0, .int .i64 0, .int .i64 0, .int .i64 0, .int .i64 0, .int .i64 0] 36)).alloc (.cells #[.int .i64 0, .int .i64 0, .int .i64 0, .int .i64 0, .int .i64 0, .int .i64 0] 36)) (w.heap.size + 1) 36 #[.int .i64 0, .int .i64 0, .int .i64 0, .int .i64 0, .int .i64 0, .int .i64 0]) := Blk.new' _ _ _ _ (by simp only [World.size_alloc])
    have HB : Hid (Below w.heap.size w ((w.alloc (.cells #[.int .i64 0, .int .i64 0, .int .i64 0, .int .i64 0, .int .i64 0, .int .i64 0] 36)).alloc (.cells #[.int .i64 0, .int .i64 0, .int .i64 0, .int .i64 0, .int .i64 0, .int .i64 0] 36))) := ((Below.refl _ _).alloc (Nat.le_refl _) _).alloc (by simp) _
    go_enter Try.func42, Try.ntmps42
    go_wp2_with (first | (go_at_call 67; (first | (with_reducible refine (sign_8 _ _).mono ?_) | (with_reducible refine (sign_11 _ _).mono ?_)); rintro e w' ⟨rfl, rfl⟩; (try rw [u3]); (try rw [u4])))
    refine (refRight_c ⟨0, 0, 0, 0, 0, 0⟩ _).mono ?_
    rintro e w2 ⟨rfl, hb⟩
    have HB2 := Lib.hid (HB.out.trans (hb.mono HB.out.size))
    have KZ2 := Lib.hid (KZ.out.only (S := fun _ => False) (Only.of_below hb) id)
    have ki := Blk.six (KI.out.only (S := fun _ => False) (Only.of_below hb) id)
    clear hb
    obtain ⟨z0, z1, z2, z3, z4, z5, zf0, zf1, zf2, zf3, zf4, zf5⟩ := six12 KZ2.out
    cases hr : rightS ⟨0, 0, 0, 0, 0, 0⟩
    · have HRR := Lib.hid hr
      clear hr
      go_wp2_with fail
      have KE : Blk ((((((w2.setCell ⟨w.heap.size, 0, none⟩ (.int .i64 0)).setCell ⟨w.heap.size, 1, none⟩ (.int .i64 0)).setCell ⟨w.heap.size, 2, none⟩ (.int .i64 0)).setCell ⟨w.heap.size, 3, none⟩ (.int .i64 0)).setCell ⟨w.heap.size, 4, none⟩ (.int .i64 0)).setCell ⟨w.heap.size, 5, none⟩ (.int .i64 0)) w.heap.size 36 #[.int .i64 0, .int .i64 0, .int .i64 0, .int .i64 0, .int .i64 0, .int .i64 0] := ((((((((((((KZ2.out).set 0 _)).set 1 _)).set 2 _)).set 3 _)).set 4 _)).set 5 _)
      have ke := Blk.six KE
      have HE := Lib.hid ((((((((((((HB2.out).setCell (p := ⟨w.heap.size, 0, none⟩) (Nat.le_refl _) (.int .i64 0))).setCell (p := ⟨w.heap.size, 1, none⟩) (Nat.le_refl _) (.int .i64 0))).setCell (p := ⟨w.heap.size, 2, none⟩) (Nat.le_refl _) (.int .i64 0))).setCell (p := ⟨w.heap.size, 3, none⟩) (Nat.le_refl _) (.int .i64 0))).setCell (p := ⟨w.heap.size, 4, none⟩) (Nat.le_refl _) (.int .i64 0))).setCell (p := ⟨w.heap.size, 5, none⟩) (Nat.le_refl _) (.int .i64 0))
      clear KE
      go_wp2_with fail
      refine bodyPost_ret (v := .tuple #[.agg #[.int .i64 0, .int .i64 0, .int .i64 0, .int .i64 0, .int .i64 0, .int .i64 0], .int .i64 (-1)]) (by rw [results_cell_tmp rfl]; go_simp) rfl ?_
      exact ⟨_, ⟨0, 0, 0, 0, 0, 0⟩, rfl, HE.out, by unfold RefOne; rw [HE0.out, HRR.out]; rfl⟩
    · have HRR := Lib.hid hr
      clear hr
      go_wp2_with fail
      have KE : Blk ((((((w2.setCell ⟨w.heap.size, 0, none⟩ (.int .i64 0)).setCell ⟨w.heap.size, 1, none⟩ (.int .i64 0)).setCell ⟨w.heap.size, 2, none⟩ (.int .i64 0)).setCell ⟨w.heap.size, 3, none⟩ (.int .i64 0)).setCell ⟨w.heap.size, 4, none⟩ (.int .i64 0)).setCell ⟨w.heap.size, 5, none⟩ (.int .i64 0)) w.heap.size 36 #[.int .i64 0, .int .i64 0, .int .i64 0, .int .i64 0, .int .i64 0, .int .i64 0] := ((((((((((((KZ2.out).set 0 _)).set 1 _)).set 2 _)).set 3 _)).set 4 _)).set 5 _)
      have ke := Blk.six KE
      have HE := Lib.hid ((((((((((((HB2.out).setCell (p := ⟨w.heap.size, 0, none⟩) (Nat.le_refl _) (.int .i64 0))).setCell (p := ⟨w.heap.size, 1, none⟩) (Nat.le_refl _) (.int .i64 0))).setCell (p := ⟨w.heap.size, 2, none⟩) (Nat.le_refl _) (.int .i64 0))).setCell (p := ⟨w.heap.size, 3, none⟩) (Nat.le_refl _) (.int .i64 0))).setCell (p := ⟨w.heap.size, 4, none⟩) (Nat.le_refl _) (.int .i64 0))).setCell (p := ⟨w.heap.size, 5, none⟩) (Nat.le_refl _) (.int .i64 0))
      clear KE
      go_wp2_with fail
      refine bodyPost_ret (v := .tuple #[.agg #[.int .i64 0, .int .i64 0, .int .i64 0, .int .i64 0, .int .i64 0, .int .i64 0], .int .i64 1]) (by rw [results_cell_tmp rfl]; go_simp) rfl ?_
      exact ⟨_, ⟨0, 0, 0, 0, 0, 0⟩, rfl, HE.out, by unfold RefOne; rw [HE0.out, HRR.out]; rfl⟩
end Go.Proofs.Ytpihjhfaeloapaa
