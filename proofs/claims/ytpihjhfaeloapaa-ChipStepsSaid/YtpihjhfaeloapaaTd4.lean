/- ref14.Decode, arm by arm. -/
import Derived.Test.YtpihjhfaeloapaaVq
namespace Go.Proofs.Ytpihjhfaeloapaa
open Go.RowKit On Th
set_option maxHeartbeats 16000000 in
set_option maxRecDepth 100000 in
theorem refDec_arm0a (g o n c : Nat) (a : Int) (w : World) (hn : 1 ≤ n) (ca : w.cell? ⟨g, o, none⟩ = some (.int .u16 a)) (h1 : a / 2048 ≠ 30) (ha : 0 ≤ a) (ha' : a < 65536)  (g0 : a < 6144) (gs : a / 2048 = 0) :
    Calls Try.prog 42 #[.slice (some ⟨g, o, none⟩) n c] w fun e w' => ∃ k : Int, ∃ i : Ins, e = .returned (.tuple #[.agg #[.int .i64 i.op, .int .i64 i.d, .int .i64 i.n, .int .i64 i.m, .int .i64 i.imm, .int .i64 i.cond], .int .i64 k]) ∧ Below w.heap.size w w' ∧ RefOne a k i := by
  have ca' : (w.alloc (.cells #[.int .i64 0, .int .i64 0, .int .i64 0, .int .i64 0, .int .i64 0, .int .i64 0] 36)).cell? ⟨g, o, none⟩ = some (.int .u16 a) := cell_new ca
  have hn1 : (0 : Int) < (n : Int) := by omega
  have b1 : (a / 2048 == 30) = false := by simpa using h1
  have t8 : a.tmod 8 = a % 8 := Int.tmod_eq_emod_of_nonneg ha
  have c0 : a < 6144 := by omega
  have H1 := Lib.hid h1
  have P0 := Lib.hid g0
  clear h1 g0
  obtain ⟨q0, q1, q2, q3, q4, q5, q6, q7, q8, q9, q10, q11, q12⟩ := qf13 a
  have u3 := sgn8_eq (a % 256) (by omega) (by omega)
  have u4 := sgn11_eq (a % 2048) (by omega) (by omega)
  obtain ⟨v1, v2⟩ := signS_range (a % 256) 256 (by omega) (by omega)
  obtain ⟨v3, v4⟩ := signS_range (a % 2048) 2048 (by omega) (by omega)
  have HE0 : Hid (decR1 a = ⟨1 + a / 2048, a % 8, 0, a / 8 % 8, a / 64 % 32, 0⟩) := by
    show decR1 a = _
    unfold decR1
    rw [if_pos P0.out, if_neg (by omega)]
  have w1 : (1 + a / 2048 == 1) = true := by simp; omega
  have w2 : (1 + a / 2048 != 1) = false := by simp; omega
  clear gs
  have KZ : Hid (Blk ((w.alloc (.cells #[.int .i64 0, .int .i64 0, .int .i64 0, .int .i64 0, .int .i64 0, .int .i64 0] 36)).alloc (.cells #[.int .i64 (1 + a / 2048), .int .i64 (a % 8), .int .i64 0, .int .i64 (a / 8 % 8), .int .i64 (a / 64 % 32), .int .i64 0] 36)) w.heap.size 36 #[.int .i64 0, .int .i64 0, .int .i64 0, .int .i64 0, .int .i64 0, .int .i64 0]) := (Blk.new _ _ _).alloc _
  have KI : Hid (Blk ((w.alloc (.cells #[.int .i64 0, .int .i64 0, .int .i64 0, .int .i64 0, .int .i64 0, .int .i64 0] 36)).alloc (.cells #[.int .i64 (1 + a / 2048), .int .i64 (a % 8), .int .i64 0, .int .i64 (a / 8 % 8), .int .i64 (a / 64 % 32), .int .i64 0] 36)) (w.heap.size + 1) 36 #[.int .i64 (1 + a / 2048), .int .i64 (a % 8), .int .i64 0, .int .i64 (a / 8 % 8), .int .i64 (a / 64 % 32), .int .i64 0]) := Blk.new' _ _ _ _ (by simp only [World.size_alloc])
  have HB : Hid (Below w.heap.size w ((w.alloc (.cells #[.int .i64 0, .int .i64 0, .int .i64 0, .int .i64 0, .int .i64 0, .int .i64 0] 36)).alloc (.cells #[.int .i64 (1 + a / 2048), .int .i64 (a % 8), .int .i64 0, .int .i64 (a / 8 % 8), .int .i64 (a / 64 % 32), .int .i64 0] 36))) := ((Below.refl _ _).alloc (Nat.le_refl _) _).alloc (by simp) _
  go_enter Try.func42, Try.ntmps42
  go_wp2_with (first | (go_at_call 67; (first | (with_reducible refine (sign_8 _ _).mono ?_) | (with_reducible refine (sign_11 _ _).mono ?_)); rintro e w' ⟨rfl, rfl⟩; (try rw [u3]); (try rw [u4])))
  refine (refRight_c ⟨(1 + a / 2048), (a % 8), 0, (a / 8 % 8), (a / 64 % 32), 0⟩ _).mono ?_
  rintro e w2 ⟨rfl, hb⟩
  have HB2 := Lib.hid (HB.out.trans (hb.mono HB.out.size))
  have KZ2 := Lib.hid (KZ.out.only (S := fun _ => False) (Only.of_below hb) id)
  have ki := Blk.six (KI.out.only (S := fun _ => False) (Only.of_below hb) id)
  clear hb
  obtain ⟨z0, z1, z2, z3, z4, z5, zf0, zf1, zf2, zf3, zf4, zf5⟩ := six12 KZ2.out
  cases hr : rightS ⟨(1 + a / 2048), (a % 8), 0, (a / 8 % 8), (a / 64 % 32), 0⟩
  · have HRR := Lib.hid hr
    clear hr
    go_wp2_with fail
    have KE : Blk ((((((w2.setCell ⟨w.heap.size, 0, none⟩ (.int .i64 0)).setCell ⟨w.heap.size, 1, none⟩ (.int .i64 0)).setCell ⟨w.heap.size, 2, none⟩ (.int .i64 0)).setCell ⟨w.heap.size, 3, none⟩ (.int .i64 0)).setCell ⟨w.heap.size, 4, none⟩ (.int .i64 0)).setCell ⟨w.heap.size, 5, none⟩ (.int .i64 0)) w.heap.size 36 #[.int .i64 0, .int .i64 0, .int .i64 0, .int .i64 0, .int .i64 0, .int .i64 0] := ((((((((((((KZ2.out).set 0 _)).set 1 _)).set 2 _)).set 3 _)).set 4 _)).set 5 _)
    have ke := Blk.six KE
    have HE := Lib.hid ((((((((((((HB2.out).setCell (p := ⟨w.heap.size, 0, none⟩) (Nat.le_refl _) (.int .i64 0))).setCell (p := ⟨w.heap.size, 1, none⟩) (Nat.le_refl _) (.int .i64 0))).setCell (p := ⟨w.heap.size, 2, none⟩) (Nat.le_refl _) (.int .i64 0))).setCell (p := ⟨w.heap.size, 3, none⟩) (Nat.le_refl _) (.int .i64 0))).setCell (p := ⟨w.heap.size, 4, none⟩) (Nat.le_refl _) (.int .i64 0))).setCell (p := ⟨w.heap.size, 5, none⟩) (Nat.le_refl _) (.int .i64 0))
    clear KE
    go_wp2_with fail
    refine bodyPost_ret (v := .tuple #[.agg #[.int .i64 0, .int .i64 0, .int .i64 0, .int .i64 0, .int .i64 0, .int .i64 0], .int .i64 (-1)]) (by rw [results_cell_tmp rfl]; go_simp) rfl ?_
    exact ⟨_, ⟨0, 0, 0, 0, 0, 0⟩, rfl, HE.out, by unfold RefOne; rw [HE0.out, HRR.out]; rfl⟩
  · have HRR := Lib.hid hr
    clear hr
    go_wp2_with fail
    have KE : Blk ((((((w2.setCell ⟨w.heap.size, 0, none⟩ (.int .i64 (1 + a / 2048))).setCell ⟨w.heap.size, 1, none⟩ (.int .i64 (a % 8))).setCell ⟨w.heap.size, 2, none⟩ (.int .i64 0)).setCell ⟨w.heap.size, 3, none⟩ (.int .i64 (a / 8 % 8))).setCell ⟨w.heap.size, 4, none⟩ (.int .i64 (a / 64 % 32))).setCell ⟨w.heap.size, 5, none⟩ (.int .i64 0)) w.heap.size 36 #[.int .i64 (1 + a / 2048), .int .i64 (a % 8), .int .i64 0, .int .i64 (a / 8 % 8), .int .i64 (a / 64 % 32), .int .i64 0] := ((((((((((((KZ2.out).set 0 _)).set 1 _)).set 2 _)).set 3 _)).set 4 _)).set 5 _)
    have ke := Blk.six KE
    have HE := Lib.hid ((((((((((((HB2.out).setCell (p := ⟨w.heap.size, 0, none⟩) (Nat.le_refl _) (.int .i64 (1 + a / 2048)))).setCell (p := ⟨w.heap.size, 1, none⟩) (Nat.le_refl _) (.int .i64 (a % 8)))).setCell (p := ⟨w.heap.size, 2, none⟩) (Nat.le_refl _) (.int .i64 0))).setCell (p := ⟨w.heap.size, 3, none⟩) (Nat.le_refl _) (.int .i64 (a / 8 % 8)))).setCell (p := ⟨w.heap.size, 4, none⟩) (Nat.le_refl _) (.int .i64 (a / 64 % 32)))).setCell (p := ⟨w.heap.size, 5, none⟩) (Nat.le_refl _) (.int .i64 0))
    clear KE
    go_wp2_with fail
    refine bodyPost_ret (v := .tuple #[.agg #[.int .i64 (1 + a / 2048), .int .i64 (a % 8), .int .i64 0, .int .i64 (a / 8 % 8), .int .i64 (a / 64 % 32), .int .i64 0], .int .i64 1]) (by rw [results_cell_tmp rfl]; go_simp) rfl ?_
    exact ⟨_, ⟨(1 + a / 2048), (a % 8), 0, (a / 8 % 8), (a / 64 % 32), 0⟩, rfl, HE.out, by unfold RefOne; rw [HE0.out, HRR.out]; rfl⟩
set_option maxHeartbeats 16000000 in
set_option maxRecDepth 100000 in
theorem refDec_arm0b (g o n c : Nat) (a : Int) (w : World) (hn : 1 ≤ n) (ca : w.cell? ⟨g, o, none⟩ = some (.int .u16 a)) (h1 : a / 2048 ≠ 30) (ha : 0 ≤ a) (ha' : a < 65536)  (g0 : a < 6144) (gs : a / 2048 ≠ 0 ∧ a / 64 % 32 = 0) :
    Calls Try.prog 42 #[.slice (some ⟨g, o, none⟩) n c] w fun e w' => ∃ k : Int, ∃ i : Ins, e = .returned (.tuple #[.agg #[.int .i64 i.op, .int .i64 i.d, .int .i64 i.n, .int .i64 i.m, .int .i64 i.imm, .int .i64 i.cond], .int .i64 k]) ∧ Below w.heap.size w w' ∧ RefOne a k i := by
  have ca' : (w.alloc (.cells #[.int .i64 0, .int .i64 0, .int .i64 0, .int .i64 0, .int .i64 0, .int .i64 0] 36)).cell? ⟨g, o, none⟩ = some (.int .u16 a) := cell_new ca
  have hn1 : (0 : Int) < (n : Int) := by omega
  have b1 : (a / 2048 == 30) = false := by simpa using h1
  have t8 : a.tmod 8 = a % 8 := Int.tmod_eq_emod_of_nonneg ha
  have c0 : a < 6144 := by omega
  have H1 := Lib.hid h1
  have P0 := Lib.hid g0
  clear h1 g0
  obtain ⟨q0, q1, q2, q3, q4, q5, q6, q7, q8, q9, q10, q11, q12⟩ := qf13 a
  have u3 := sgn8_eq (a % 256) (by omega) (by omega)
  have u4 := sgn11_eq (a % 2048) (by omega) (by omega)
  obtain ⟨v1, v2⟩ := signS_range (a % 256) 256 (by omega) (by omega)
  obtain ⟨v3, v4⟩ := signS_range (a % 2048) 2048 (by omega) (by omega)
  have HE0 : Hid (decR1 a = ⟨1 + a / 2048, a % 8, 0, a / 8 % 8, 32, 0⟩) := by
    show decR1 a = _
    unfold decR1
    rw [if_pos P0.out, if_pos (by omega)]
  have w1 : (1 + a / 2048 == 1) = false := by simp; omega
  have w2 : (1 + a / 2048 != 1) = true := by simp; omega
  have w3 : (a / 64 % 32 == 0) = true := by simp; omega
  clear gs
  have KZ : Hid (Blk ((w.alloc (.cells #[.int .i64 0, .int .i64 0, .int .i64 0, .int .i64 0, .int .i64 0, .int .i64 0] 36)).alloc (.cells #[.int .i64 (1 + a / 2048), .int .i64 (a % 8), .int .i64 0, .int .i64 (a / 8 % 8), .int .i64 32, .int .i64 0] 36)) w.heap.size 36 #[.int .i64 0, .int .i64 0, .int .i64 0, .int .i64 0, .int .i64 0, .int .i64 0]) := (Blk.new _ _ _).alloc _
  have KI : Hid (Blk ((w.alloc (.cells #[.int .i64 0, .int .i64 0, .int .i64 0, .int .i64 0, .int .i64 0, .int .i64 0] 36)).alloc (.cells #[.int .i64 (1 + a / 2048), .int .i64 (a % 8), .int .i64 0, .int .i64 (a / 8 % 8), .int .i64 32, .int .i64 0] 36)) (w.heap.size + 1) 36 #[.int .i64 (1 + a / 2048), .int .i64 (a % 8), .int .i64 0, .int .i64 (a / 8 % 8), .int .i64 32, .int .i64 0]) := Blk.new' _ _ _ _ (by simp only [World.size_alloc])
  have HB : Hid (Below w.heap.size w ((w.alloc (.cells #[.int .i64 0, .int .i64 0, .int .i64 0, .int .i64 0, .int .i64 0, .int .i64 0] 36)).alloc (.cells #[.int .i64 (1 + a / 2048), .int .i64 (a % 8), .int .i64 0, .int .i64 (a / 8 % 8), .int .i64 32, .int .i64 0] 36))) := ((Below.refl _ _).alloc (Nat.le_refl _) _).alloc (by simp) _
  go_enter Try.func42, Try.ntmps42
  go_wp2_with (first | (go_at_call 67; (first | (with_reducible refine (sign_8 _ _).mono ?_) | (with_reducible refine (sign_11 _ _).mono ?_)); rintro e w' ⟨rfl, rfl⟩; (try rw [u3]); (try rw [u4])))
  refine (refRight_c ⟨(1 + a / 2048), (a % 8), 0, (a / 8 % 8), 32, 0⟩ _).mono ?_
  rintro e w2 ⟨rfl, hb⟩
  have HB2 := Lib.hid (HB.out.trans (hb.mono HB.out.size))
  have KZ2 := Lib.hid (KZ.out.only (S := fun _ => False) (Only.of_below hb) id)
  have ki := Blk.six (KI.out.only (S := fun _ => False) (Only.of_below hb) id)
  clear hb
  obtain ⟨z0, z1, z2, z3, z4, z5, zf0, zf1, zf2, zf3, zf4, zf5⟩ := six12 KZ2.out
  cases hr : rightS ⟨(1 + a / 2048), (a % 8), 0, (a / 8 % 8), 32, 0⟩
  · have HRR := Lib.hid hr
    clear hr
    go_wp2_with fail
    have KE : Blk ((((((w2.setCell ⟨w.heap.size, 0, none⟩ (.int .i64 0)).setCell ⟨w.heap.size, 1, none⟩ (.int .i64 0)).setCell ⟨w.heap.size, 2, none⟩ (.int .i64 0)).setCell ⟨w.heap.size, 3, none⟩ (.int .i64 0)).setCell ⟨w.heap.size, 4, none⟩ (.int .i64 0)).setCell ⟨w.heap.size, 5, none⟩ (.int .i64 0)) w.heap.size 36 #[.int .i64 0, .int .i64 0, .int .i64 0, .int .i64 0, .int .i64 0, .int .i64 0] := ((((((((((((KZ2.out).set 0 _)).set 1 _)).set 2 _)).set 3 _)).set 4 _)).set 5 _)
    have ke := Blk.six KE
    have HE := Lib.hid ((((((((((((HB2.out).setCell (p := ⟨w.heap.size, 0, none⟩) (Nat.le_refl _) (.int .i64 0))).setCell (p := ⟨w.heap.size, 1, none⟩) (Nat.le_refl _) (.int .i64 0))).setCell (p := ⟨w.heap.size, 2, none⟩) (Nat.le_refl _) (.int .i64 0))).setCell (p := ⟨w.heap.size, 3, none⟩) (Nat.le_refl _) (.int .i64 0))).setCell (p := ⟨w.heap.size, 4, none⟩) (Nat.le_refl _) (.int .i64 0))).setCell (p := ⟨w.heap.size, 5, none⟩) (Nat.le_refl _) (.int .i64 0))
    clear KE
    go_wp2_with fail
    refine bodyPost_ret (v := .tuple #[.agg #[.int .i64 0, .int .i64 0, .int .i64 0, .int .i64 0, .int .i64 0, .int .i64 0], .int .i64 (-1)]) (by rw [results_cell_tmp rfl]; go_simp) rfl ?_
    exact ⟨_, ⟨0, 0, 0, 0, 0, 0⟩, rfl, HE.out, by unfold RefOne; rw [HE0.out, HRR.out]; rfl⟩
  · have HRR := Lib.hid hr
    clear hr
    go_wp2_with fail
    have KE : Blk ((((((w2.setCell ⟨w.heap.size, 0, none⟩ (.int .i64 (1 + a / 2048))).setCell ⟨w.heap.size, 1, none⟩ (.int .i64 (a % 8))).setCell ⟨w.heap.size, 2, none⟩ (.int .i64 0)).setCell ⟨w.heap.size, 3, none⟩ (.int .i64 (a / 8 % 8))).setCell ⟨w.heap.size, 4, none⟩ (.int .i64 32)).setCell ⟨w.heap.size, 5, none⟩ (.int .i64 0)) w.heap.size 36 #[.int .i64 (1 + a / 2048), .int .i64 (a % 8), .int .i64 0, .int .i64 (a / 8 % 8), .int .i64 32, .int .i64 0] := ((((((((((((KZ2.out).set 0 _)).set 1 _)).set 2 _)).set 3 _)).set 4 _)).set 5 _)
    have ke := Blk.six KE
    have HE := Lib.hid ((((((((((((HB2.out).setCell (p := ⟨w.heap.size, 0, none⟩) (Nat.le_refl _) (.int .i64 (1 + a / 2048)))).setCell (p := ⟨w.heap.size, 1, none⟩) (Nat.le_refl _) (.int .i64 (a % 8)))).setCell (p := ⟨w.heap.size, 2, none⟩) (Nat.le_refl _) (.int .i64 0))).setCell (p := ⟨w.heap.size, 3, none⟩) (Nat.le_refl _) (.int .i64 (a / 8 % 8)))).setCell (p := ⟨w.heap.size, 4, none⟩) (Nat.le_refl _) (.int .i64 32))).setCell (p := ⟨w.heap.size, 5, none⟩) (Nat.le_refl _) (.int .i64 0))
    clear KE
    go_wp2_with fail
    refine bodyPost_ret (v := .tuple #[.agg #[.int .i64 (1 + a / 2048), .int .i64 (a % 8), .int .i64 0, .int .i64 (a / 8 % 8), .int .i64 32, .int .i64 0], .int .i64 1]) (by rw [results_cell_tmp rfl]; go_simp) rfl ?_
    exact ⟨_, ⟨(1 + a / 2048), (a % 8), 0, (a / 8 % 8), 32, 0⟩, rfl, HE.out, by unfold RefOne; rw [HE0.out, HRR.out]; rfl⟩
set_option maxHeartbeats 16000000 in
set_option maxRecDepth 100000 in
theorem refDec_arm0c (g o n c : Nat) (a : Int) (w : World) (hn : 1 ≤ n) (ca : w.cell? ⟨g, o, none⟩ = some (.int .u16 a)) (h1 : a / 2048 ≠ 30) (ha : 0 ≤ a) (ha' : a < 65536)  (g0 : a < 6144) (gs : a / 2048 ≠ 0 ∧ a / 64 % 32 ≠ 0) :
    Calls Try.prog 42 #[.slice (some ⟨g, o, none⟩) n c] w fun e w' => ∃ k : Int, ∃ i : Ins, e = .returned (.tuple #[.agg #[.int .i64 i.op, .int .i64 i.d, .int .i64 i.n, .int .i64 i.m, .int .i64 i.imm, .int .i64 i.cond], .int .i64 k]) ∧ Below w.heap.size w w' ∧ RefOne a k i := by
  have ca' : (w.alloc (.cells #[.int .i64 0, .int .i64 0, .int .i64 0, .int .i64 0, .int .i64 0, .int .i64 0] 36)).cell? ⟨g, o, none⟩ = some (.int .u16 a) := cell_new ca
  have hn1 : (0 : Int) < (n : Int) := by omega
  have b1 : (a / 2048 == 30) = false := by simpa using h1
  have t8 : a.tmod 8 = a % 8 := Int.tmod_eq_emod_of_nonneg ha
  have c0 : a < 6144 := by omega
  have H1 := Lib.hid h1
  have P0 := Lib.hid g0
  clear h1 g0
  obtain ⟨q0, q1, q2, q3, q4, q5, q6, q7, q8, q9, q10, q11, q12⟩ := qf13 a
  have u3 := sgn8_eq (a % 256) (by omega) (by omega)
  have u4 := sgn11_eq (a % 2048) (by omega) (by omega)
  obtain ⟨v1, v2⟩ := signS_range (a % 256) 256 (by omega) (by omega)
  obtain ⟨v3, v4⟩ := signS_range (a % 2048) 2048 (by omega) (by omega)
  have HE0 : Hid (decR1 a = ⟨1 + a / 2048, a % 8, 0, a / 8 % 8, a / 64 % 32, 0⟩) := by
    show decR1 a = _
    unfold decR1
    rw [if_pos P0.out, if_neg (by omega)]
  have w1 : (1 + a / 2048 == 1) = false := by simp; omega
  have w2 : (1 + a / 2048 != 1) = true := by simp; omega
  have w3 : (a / 64 % 32 == 0) = false := by simp; omega
  clear gs
  have KZ : Hid (Blk ((w.alloc (.cells #[.int .i64 0, .int .i64 0, .int .i64 0, .int .i64 0, .int .i64 0, .int .i64 0] 36)).alloc (.cells #[.int .i64 (1 + a / 2048), .int .i64 (a % 8), .int .i64 0, .int .i64 (a / 8 % 8), .int .i64 (a / 64 % 32), .int .i64 0] 36)) w.heap.size 36 #[.int .i64 0, .int .i64 0, .int .i64 0, .int .i64 0, .int .i64 0, .int .i64 0]) := (Blk.new _ _ _).alloc _
  have KI : Hid (Blk ((w.alloc (.cells #[.int .i64 0, .int .i64 0, .int .i64 0, .int .i64 0, .int .i64 0, .int .i64 0] 36)).alloc (.cells #[.int .i64 (1 + a / 2048), .int .i64 (a % 8), .int .i64 0, .int .i64 (a / 8 % 8), .int .i64 (a / 64 % 32), .int .i64 0] 36)) (w.heap.size + 1) 36 #[.int .i64 (1 + a / 2048), .int .i64 (a % 8), .int .i64 0, .int .i64 (a / 8 % 8), .int .i64 (a / 64 % 32), .int .i64 0]) := Blk.new' _ _ _ _ (by simp only [World.size_alloc])
  have HB : Hid (Below w.heap.size w ((w.alloc (.cells #[.int .i64 0, .int .i64 0, .int .i64 0, .int .i64 0, .int .i64 0, .int .i64 0] 36)).alloc (.cells #[.int .i64 (1 + a / 2048), .int .i64 (a % 8), .int .i64 0, .int .i64 (a / 8 % 8), .int .i64 (a / 64 % 32), .int .i64 0] 36))) := ((Below.refl _ _).alloc (Nat.le_refl _) _).alloc (by simp) _
  go_enter Try.func42, Try.ntmps42
  go_wp2_with (first | (go_at_call 67; (first | (with_reducible refine (sign_8 _ _).mono ?_) | (with_reducible refine (sign_11 _ _).mono ?_)); rintro e w' ⟨rfl, rfl⟩; (try rw [u3]); (try rw [u4])))
  refine (refRight_c ⟨(1 + a / 2048), (a % 8), 0, (a / 8 % 8), (a / 64 % 32), 0⟩ _).mono ?_
  rintro e w2 ⟨rfl, hb⟩
  have HB2 := Lib.hid (HB.out.trans (hb.mono HB.out.size))
  have KZ2 := Lib.hid (KZ.out.only (S := fun _ => False) (Only.of_below hb) id)
  have ki := Blk.six (KI.out.only (S := fun _ => False) (Only.of_below hb) id)
  clear hb
  obtain ⟨z0, z1, z2, z3, z4, z5, zf0, zf1, zf2, zf3, zf4, zf5⟩ := six12 KZ2.out
  cases hr : rightS ⟨(1 + a / 2048), (a % 8), 0, (a / 8 % 8), (a / 64 % 32), 0⟩
  · have HRR := Lib.hid hr
    clear hr
    go_wp2_with fail
    have KE : Blk ((((((w2.setCell ⟨w.heap.size, 0, none⟩ (.int .i64 0)).setCell ⟨w.heap.size, 1, none⟩ (.int .i64 0)).setCell ⟨w.heap.size, 2, none⟩ (.int .i64 0)).setCell ⟨w.heap.size, 3, none⟩ (.int .i64 0)).setCell ⟨w.heap.size, 4, none⟩ (.int .i64 0)).setCell ⟨w.heap.size, 5, none⟩ (.int .i64 0)) w.heap.size 36 #[.int .i64 0, .int .i64 0, .int .i64 0, .int .i64 0, .int .i64 0, .int .i64 0] := ((((((((((((KZ2.out).set 0 _)).set 1 _)).set 2 _)).set 3 _)).set 4 _)).set 5 _)
    have ke := Blk.six KE
    have HE := Lib.hid ((((((((((((HB2.out).setCell (p := ⟨w.heap.size, 0, none⟩) (Nat.le_refl _) (.int .i64 0))).setCell (p := ⟨w.heap.size, 1, none⟩) (Nat.le_refl _) (.int .i64 0))).setCell (p := ⟨w.heap.size, 2, none⟩) (Nat.le_refl _) (.int .i64 0))).setCell (p := ⟨w.heap.size, 3, none⟩) (Nat.le_refl _) (.int .i64 0))).setCell (p := ⟨w.heap.size, 4, none⟩) (Nat.le_refl _) (.int .i64 0))).setCell (p := ⟨w.heap.size, 5, none⟩) (Nat.le_refl _) (.int .i64 0))
    clear KE
    go_wp2_with fail
    refine bodyPost_ret (v := .tuple #[.agg #[.int .i64 0, .int .i64 0, .int .i64 0, .int .i64 0, .int .i64 0, .int .i64 0], .int .i64 (-1)]) (by rw [results_cell_tmp rfl]; go_simp) rfl ?_
    exact ⟨_, ⟨0, 0, 0, 0, 0, 0⟩, rfl, HE.out, by unfold RefOne; rw [HE0.out, HRR.out]; rfl⟩
  · have HRR := Lib.hid hr
    clear hr
    go_wp2_with fail
    have KE : Blk ((((((w2.setCell ⟨w.heap.size, 0, none⟩ (.int .i64 (1 + a / 2048))).setCell ⟨w.heap.size, 1, none⟩ (.int .i64 (a % 8))).setCell ⟨w.heap.size, 2, none⟩ (.int .i64 0)).setCell ⟨w.heap.size, 3, none⟩ (.int .i64 (a / 8 % 8))).setCell ⟨w.heap.size, 4, none⟩ (.int .i64 (a / 64 % 32))).setCell ⟨w.heap.size, 5, none⟩ (.int .i64 0)) w.heap.size 36 #[.int .i64 (1 + a / 2048), .int .i64 (a % 8), .int .i64 0, .int .i64 (a / 8 % 8), .int .i64 (a / 64 % 32), .int .i64 0] := ((((((((((((KZ2.out).set 0 _)).set 1 _)).set 2 _)).set 3 _)).set 4 _)).set 5 _)
    have ke := Blk.six KE
    have HE := Lib.hid ((((((((((((HB2.out).setCell (p := ⟨w.heap.size, 0, none⟩) (Nat.le_refl _) (.int .i64 (1 + a / 2048)))).setCell (p := ⟨w.heap.size, 1, none⟩) (Nat.le_refl _) (.int .i64 (a % 8)))).setCell (p := ⟨w.heap.size, 2, none⟩) (Nat.le_refl _) (.int .i64 0))).setCell (p := ⟨w.heap.size, 3, none⟩) (Nat.le_refl _) (.int .i64 (a / 8 % 8)))).setCell (p := ⟨w.heap.size, 4, none⟩) (Nat.le_refl _) (.int .i64 (a / 64 % 32)))).setCell (p := ⟨w.heap.size, 5, none⟩) (Nat.le_refl _) (.int .i64 0))
    clear KE
    go_wp2_with fail
    refine bodyPost_ret (v := .tuple #[.agg #[.int .i64 (1 + a / 2048), .int .i64 (a % 8), .int .i64 0, .int .i64 (a / 8 % 8), .int .i64 (a / 64 % 32), .int .i64 0], .int .i64 1]) (by rw [results_cell_tmp rfl]; go_simp) rfl ?_
    exact ⟨_, ⟨(1 + a / 2048), (a % 8), 0, (a / 8 % 8), (a / 64 % 32), 0⟩, rfl, HE.out, by unfold RefOne; rw [HE0.out, HRR.out]; rfl⟩
set_option maxHeartbeats 16000000 in
set_option maxRecDepth 100000 in
theorem refDec_arm1 (g o n c : Nat) (a : Int) (w : World) (hn : 1 ≤ n) (ca : w.cell? ⟨g, o, none⟩ = some (.int .u16 a)) (h1 : a / 2048 ≠ 30) (ha : 0 ≤ a) (ha' : a < 65536) (g0 : ¬ (a < 6144)) (g1 : a < 7168) :
    Calls Try.prog 42 #[.slice (some ⟨g, o, none⟩) n c] w fun e w' => ∃ k : Int, ∃ i : Ins, e = .returned (.tuple #[.agg #[.int .i64 i.op, .int .i64 i.d, .int .i64 i.n, .int .i64 i.m, .int .i64 i.imm, .int .i64 i.cond], .int .i64 k]) ∧ Below w.heap.size w w' ∧ RefOne a k i := by
  have ca' : (w.alloc (.cells #[.int .i64 0, .int .i64 0, .int .i64 0, .int .i64 0, .int .i64 0, .int .i64 0] 36)).cell? ⟨g, o, none⟩ = some (.int .u16 a) := cell_new ca
  have hn1 : (0 : Int) < (n : Int) := by omega
  have b1 : (a / 2048 == 30) = false := by simpa using h1
  have t8 : a.tmod 8 = a % 8 := Int.tmod_eq_emod_of_nonneg ha
  have c0 : 6144 ≤ a := by omega
  have c1 : a < 7168 := by omega
  have H1 := Lib.hid h1
  have P0 := Lib.hid g0
  have P1 := Lib.hid g1
  clear h1 g0 g1
  obtain ⟨q0, q1, q2, q3, q4, q5, q6, q7, q8, q9, q10, q11, q12⟩ := qf13 a
  have u3 := sgn8_eq (a % 256) (by omega) (by omega)
  have u4 := sgn11_eq (a % 2048) (by omega) (by omega)
  obtain ⟨v1, v2⟩ := signS_range (a % 256) 256 (by omega) (by omega)
  obtain ⟨v3, v4⟩ := signS_range (a % 2048) 2048 (by omega) (by omega)
  have HE0 : Hid (decR1 a = ⟨4 + a / 512 % 2, a % 8, a / 8 % 8, a / 64 % 8, 0, 0⟩) := by
    show decR1 a = _
    unfold decR1
    rw [if_neg P0.out, if_pos P1.out]
  have KZ : Hid (Blk ((w.alloc (.cells #[.int .i64 0, .int .i64 0, .int .i64 0, .int .i64 0, .int .i64 0, .int .i64 0] 36)).alloc (.cells #[.int .i64 (4 + a / 512 % 2), .int .i64 (a % 8), .int .i64 (a / 8 % 8), .int .i64 (a / 64 % 8), .int .i64 0, .int .i64 0] 36)) w.heap.size 36 #[.int .i64 0, .int .i64 0, .int .i64 0, .int .i64 0, .int .i64 0, .int .i64 0]) := (Blk.new _ _ _).alloc _
  have KI : Hid (Blk ((w.alloc (.cells #[.int .i64 0, .int .i64 0, .int .i64 0, .int .i64 0, .int .i64 0, .int .i64 0] 36)).alloc (.cells #[.int .i64 (4 + a / 512 % 2), .int .i64 (a % 8), .int .i64 (a / 8 % 8), .int .i64 (a / 64 % 8), .int .i64 0, .int .i64 0] 36)) (w.heap.size + 1) 36 #[.int .i64 (4 + a / 512 % 2), .int .i64 (a % 8), .int .i64 (a / 8 % 8), .int .i64 (a / 64 % 8), .int .i64 0, .int .i64 0]) := Blk.new' _ _ _ _ (by simp only [World.size_alloc])
  have HB : Hid (Below w.heap.size w ((w.alloc (.cells #[.int .i64 0, .int .i64 0, .int .i64 0, .int .i64 0, .int .i64 0, .int .i64 0] 36)).alloc (.cells #[.int .i64 (4 + a / 512 % 2), .int .i64 (a % 8), .int .i64 (a / 8 % 8), .int .i64 (a / 64 % 8), .int .i64 0, .int .i64 0] 36))) := ((Below.refl _ _).alloc (Nat.le_refl _) _).alloc (by simp) _
  go_enter Try.func42, Try.ntmps42
  go_wp2_with (first | (go_at_call 67; (first | (with_reducible refine (sign_8 _ _).mono ?_) | (with_reducible refine (sign_11 _ _).mono ?_)); rintro e w' ⟨rfl, rfl⟩; (try rw [u3]); (try rw [u4])))
  refine (refRight_c ⟨(4 + a / 512 % 2), (a % 8), (a / 8 % 8), (a / 64 % 8), 0, 0⟩ _).mono ?_
  rintro e w2 ⟨rfl, hb⟩
  have HB2 := Lib.hid (HB.out.trans (hb.mono HB.out.size))
  have KZ2 := Lib.hid (KZ.out.only (S := fun _ => False) (Only.of_below hb) id)
  have ki := Blk.six (KI.out.only (S := fun _ => False) (Only.of_below hb) id)
  clear hb
  obtain ⟨z0, z1, z2, z3, z4, z5, zf0, zf1, zf2, zf3, zf4, zf5⟩ := six12 KZ2.out
  cases hr : rightS ⟨(4 + a / 512 % 2), (a % 8), (a / 8 % 8), (a / 64 % 8), 0, 0⟩
  · have HRR := Lib.hid hr
    clear hr
    go_wp2_with fail
    have KE : Blk ((((((w2.setCell ⟨w.heap.size, 0, none⟩ (.int .i64 0)).setCell ⟨w.heap.size, 1, none⟩ (.int .i64 0)).setCell ⟨w.heap.size, 2, none⟩ (.int .i64 0)).setCell ⟨w.heap.size, 3, none⟩ (.int .i64 0)).setCell ⟨w.heap.size, 4, none⟩ (.int .i64 0)).setCell ⟨w.heap.size, 5, none⟩ (.int .i64 0)) w.heap.size 36 #[.int .i64 0, .int .i64 0, .int .i64 0, .int .i64 0, .int .i64 0, .int .i64 0] := ((((((((((((KZ2.out).set 0 _)).set 1 _)).set 2 _)).set 3 _)).set 4 _)).set 5 _)
    have ke := Blk.six KE
    have HE := Lib.hid ((((((((((((HB2.out).setCell (p := ⟨w.heap.size, 0, none⟩) (Nat.le_refl _) (.int .i64 0))).setCell (p := ⟨w.heap.size, 1, none⟩) (Nat.le_refl _) (.int .i64 0))).setCell (p := ⟨w.heap.size, 2, none⟩) (Nat.le_refl _) (.int .i64 0))).setCell (p := ⟨w.heap.size, 3, none⟩) (Nat.le_refl _) (.int .i64 0))).setCell (p := ⟨w.heap.size, 4, none⟩) (Nat.le_refl _) (.int .i64 0))).setCell (p := ⟨w.heap.size, 5, none⟩) (Nat.le_refl _) (.int .i64 0))
    clear KE
    go_wp2_with fail
    refine bodyPost_ret (v := .tuple #[.agg #[.int .i64 0, .int .i64 0, .int .i64 0, .int .i64 0, .int .i64 0, .int .i64 0], .int .i64 (-1)]) (by rw [results_cell_tmp rfl]; go_simp) rfl ?_
    exact ⟨_, ⟨0, 0, 0, 0, 0, 0⟩, rfl, HE.out, by unfold RefOne; rw [HE0.out, HRR.out]; rfl⟩
  · have HRR := Lib.hid hr
    clear hr
    go_wp2_with fail
    have KE : Blk ((((((w2.setCell ⟨w.heap.size, 0, none⟩ (.int .i64 (4 + a / 512 % 2))).setCell ⟨w.heap.size, 1, none⟩ (.int .i64 (a % 8))).setCell ⟨w.heap.size, 2, none⟩ (.int .i64 (a / 8 % 8))).setCell ⟨w.heap.size, 3, none⟩ (.int .i64 (a / 64 % 8))).setCell ⟨w.heap.size, 4, none⟩ (.int .i64 0)).setCell ⟨w.heap.size, 5, none⟩ (.int .i64 0)) w.heap.size 36 #[.int .i64 (4 + a / 512 % 2), .int .i64 (a % 8), .int .i64 (a / 8 % 8), .int .i64 (a / 64 % 8), .int .i64 0, .int .i64 0] := ((((((((((((KZ2.out).set 0 _)).set 1 _)).set 2 _)).set 3 _)).set 4 _)).set 5 _)
    have ke := Blk.six KE
    have HE := Lib.hid ((((((((((((HB2.out).setCell (p := ⟨w.heap.size, 0, none⟩) (Nat.le_refl _) (.int .i64 (4 + a / 512 % 2)))).setCell (p := ⟨w.heap.size, 1, none⟩) (Nat.le_refl _) (.int .i64 (a % 8)))).setCell (p := ⟨w.heap.size, 2, none⟩) (Nat.le_refl _) (.int .i64 (a / 8 % 8)))).setCell (p := ⟨w.heap.size, 3, none⟩) (Nat.le_refl _) (.int .i64 (a / 64 % 8)))).setCell (p := ⟨w.heap.size, 4, none⟩) (Nat.le_refl _) (.int .i64 0))).setCell (p := ⟨w.heap.size, 5, none⟩) (Nat.le_refl _) (.int .i64 0))
    clear KE
    go_wp2_with fail
    refine bodyPost_ret (v := .tuple #[.agg #[.int .i64 (4 + a / 512 % 2), .int .i64 (a % 8), .int .i64 (a / 8 % 8), .int .i64 (a / 64 % 8), .int .i64 0, .int .i64 0], .int .i64 1]) (by rw [results_cell_tmp rfl]; go_simp) rfl ?_
    exact ⟨_, ⟨(4 + a / 512 % 2), (a % 8), (a / 8 % 8), (a / 64 % 8), 0, 0⟩, rfl, HE.out, by unfold RefOne; rw [HE0.out, HRR.out]; rfl⟩
set_option maxHeartbeats 16000000 in
set_option maxRecDepth 100000 in
theorem refDec_arm2 (g o n c : Nat) (a : Int) (w : World) (hn : 1 ≤ n) (ca : w.cell? ⟨g, o, none⟩ = some (.int .u16 a)) (h1 : a / 2048 ≠ 30) (ha : 0 ≤ a) (ha' : a < 65536) (g0 : ¬ (a < 6144)) (g1 : ¬ (a < 7168)) (g2 : a < 8192) :
    Calls Try.prog 42 #[.slice (some ⟨g, o, none⟩) n c] w fun e w' => ∃ k : Int, ∃ i : Ins, e = .returned (.tuple #[.agg #[.int .i64 i.op, .int .i64 i.d, .int .i64 i.n, .int .i64 i.m, .int .i64 i.imm, .int .i64 i.cond], .int .i64 k]) ∧ Below w.heap.size w w' ∧ RefOne a k i := by
  have ca' : (w.alloc (.cells #[.int .i64 0, .int .i64 0, .int .i64 0, .int .i64 0, .int .i64 0, .int .i64 0] 36)).cell? ⟨g, o, none⟩ = some (.int .u16 a) := cell_new ca
  have hn1 : (0 : Int) < (n : Int) := by omega
  have b1 : (a / 2048 == 30) = false := by simpa using h1
  have t8 : a.tmod 8 = a % 8 := Int.tmod_eq_emod_of_nonneg ha
  have c0 : 6144 ≤ a := by omega
  have c1 : 7168 ≤ a := by omega
  have c2 : a < 8192 := by omega
  have H1 := Lib.hid h1
  have P0 := Lib.hid g0
  have P1 := Lib.hid g1
  have P2 := Lib.hid g2
  clear h1 g0 g1 g2
  obtain ⟨q0, q1, q2, q3, q4, q5, q6, q7, q8, q9, q10, q11, q12⟩ := qf13 a
  have u3 := sgn8_eq (a % 256) (by omega) (by omega)
  have u4 := sgn11_eq (a % 2048) (by omega) (by omega)
  obtain ⟨v1, v2⟩ := signS_range (a % 256) 256 (by omega) (by omega)
  obtain ⟨v3, v4⟩ := signS_range (a % 2048) 2048 (by omega) (by omega)
  have HE0 : Hid (decR1 a = ⟨6 + a / 512 % 2, a % 8, a / 8 % 8, 0, a / 64 % 8, 0⟩) := by
    show decR1 a = _
    unfold decR1
    rw [if_neg P0.out, if_neg P1.out, if_pos P2.out]
  have KZ : Hid (Blk ((w.alloc (.cells #[.int .i64 0, .int .i64 0, .int .i64 0, .int .i64 0, .int .i64 0, .int .i64 0] 36)).alloc (.cells #[.int .i64 (6 + a / 512 % 2), .int .i64 (a % 8), .int .i64 (a / 8 % 8), .int .i64 0, .int .i64 (a / 64 % 8), .int .i64 0] 36)) w.heap.size 36 #[.int .i64 0, .int .i64 0, .int .i64 0, .int .i64 0, .int .i64 0, .int .i64 0]) := (Blk.new _ _ _).alloc _
  have KI : Hid (Blk ((w.alloc (.cells #[.int .i64 0, .int .i64 0, .int .i64 0, .int .i64 0, .int .i64 0, .int .i64 0] 36)).alloc (.cells #[.int .i64 (6 + a / 512 % 2), .int .i64 (a % 8), .int .i64 (a / 8 % 8), .int .i64 0, .int .i64 (a / 64 % 8), .int .i64 0] 36)) (w.heap.size + 1) 36 #[.int .i64 (6 + a / 512 % 2), .int .i64 (a % 8), .int .i64 (a / 8 % 8), .int .i64 0, .int .i64 (a / 64 % 8), .int .i64 0]) := Blk.new' _ _ _ _ (by simp only [World.size_alloc])
  have HB : Hid (Below w.heap.size w ((w.alloc (.cells #[.int .i64 0, .int .i64 0, .int .i64 0, .int .i64 0, .int .i64 0, .int .i64 0] 36)).alloc (.cells #[.int .i64 (6 + a / 512 % 2), .int .i64 (a % 8), .int .i64 (a / 8 % 8), .int .i64 0, .int .i64 (a / 64 % 8), .int .i64 0] 36))) := ((Below.refl _ _).alloc (Nat.le_refl _) _).alloc (by simp) _
  go_enter Try.func42, Try.ntmps42
  go_wp2_with (first | (go_at_call 67; (first | (with_reducible refine (sign_8 _ _).mono ?_) | (with_reducible refine (sign_11 _ _).mono ?_)); rintro e w' ⟨rfl, rfl⟩; (try rw [u3]); (try rw [u4])))
  refine (refRight_c ⟨(6 + a / 512 % 2), (a % 8), (a / 8 % 8), 0, (a / 64 % 8), 0⟩ _).mono ?_
  rintro e w2 ⟨rfl, hb⟩
  have HB2 := Lib.hid (HB.out.trans (hb.mono HB.out.size))
  have KZ2 := Lib.hid (KZ.out.only (S := fun _ => False) (Only.of_below hb) id)
  have ki := Blk.six (KI.out.only (S := fun _ => False) (Only.of_below hb) id)
  clear hb
  obtain ⟨z0, z1, z2, z3, z4, z5, zf0, zf1, zf2, zf3, zf4, zf5⟩ := six12 KZ2.out
  cases hr : rightS ⟨(6 + a / 512 % 2), (a % 8), (a / 8 % 8), 0, (a / 64 % 8), 0⟩
  · have HRR := Lib.hid hr
    clear hr
    go_wp2_with fail
    have KE : Blk ((((((w2.setCell ⟨w.heap.size, 0, none⟩ (.int .i64 0)).setCell ⟨w.heap.size, 1, none⟩ (.int .i64 0)).setCell ⟨w.heap.size, 2, none⟩ (.int .i64 0)).setCell ⟨w.heap.size, 3, none⟩ (.int .i64 0)).setCell ⟨w.heap.size, 4, none⟩ (.int .i64 0)).setCell ⟨w.heap.size, 5, none⟩ (.int .i64 0)) w.heap.size 36 #[.int .i64 0, .int .i64 0, .int .i64 0, .int .i64 0, .int .i64 0, .int .i64 0] := ((((((((((((KZ2.out).set 0 _)).set 1 _)).set 2 _)).set 3 _)).set 4 _)).set 5 _)
    have ke := Blk.six KE
    have HE := Lib.hid ((((((((((((HB2.out).setCell (p := ⟨w.heap.size, 0, none⟩) (Nat.le_refl _) (.int .i64 0))).setCell (p := ⟨w.heap.size, 1, none⟩) (Nat.le_refl _) (.int .i64 0))).setCell (p := ⟨w.heap.size, 2, none⟩) (Nat.le_refl _) (.int .i64 0))).setCell (p := ⟨w.heap.size, 3, none⟩) (Nat.le_refl _) (.int .i64 0))).setCell (p := ⟨w.heap.size, 4, none⟩) (Nat.le_refl _) (.int .i64 0))).setCell (p := ⟨w.heap.size, 5, none⟩) (Nat.le_refl _) (.int .i64 0))
    clear KE
    go_wp2_with fail
    refine bodyPost_ret (v := .tuple #[.agg #[.int .i64 0, .int .i64 0, .int .i64 0, .int .i64 0, .int .i64 0, .int .i64 0], .int .i64 (-1)]) (by rw [results_cell_tmp rfl]; go_simp) rfl ?_
    exact ⟨_, ⟨0, 0, 0, 0, 0, 0⟩, rfl, HE.out, by unfold RefOne; rw [HE0.out, HRR.out]; rfl⟩
  · have HRR := Lib.hid hr
    clear hr
    go_wp2_with fail
    have KE : Blk ((((((w2.setCell ⟨w.heap.size, 0, none⟩ (.int .i64 (6 + a / 512 % 2))).setCell ⟨w.heap.size, 1, none⟩ (.int .i64 (a % 8))).setCell ⟨w.heap.size, 2, none⟩ (.int .i64 (a / 8 % 8))).setCell ⟨w.heap.size, 3, none⟩ (.int .i64 0)).setCell ⟨w.heap.size, 4, none⟩ (.int .i64 (a / 64 % 8))).setCell ⟨w.heap.size, 5, none⟩ (.int .i64 0)) w.heap.size 36 #[.int .i64 (6 + a / 512 % 2), .int .i64 (a % 8), .int .i64 (a / 8 % 8), .int .i64 0, .int .i64 (a / 64 % 8), .int .i64 0] := ((((((((((((KZ2.out).set 0 _)).set 1 _)).set 2 _)).set 3 _)).set 4 _)).set 5 _)
    have ke := Blk.six KE
    have HE := Lib.hid ((((((((((((HB2.out).setCell (p := ⟨w.heap.size, 0, none⟩) (Nat.le_refl _) (.int .i64 (6 + a / 512 % 2)))).setCell (p := ⟨w.heap.size, 1, none⟩) (Nat.le_refl _) (.int .i64 (a % 8)))).setCell (p := ⟨w.heap.size, 2, none⟩) (Nat.le_refl _) (.int .i64 (a / 8 % 8)))).setCell (p := ⟨w.heap.size, 3, none⟩) (Nat.le_refl _) (.int .i64 0))).setCell (p := ⟨w.heap.size, 4, none⟩) (Nat.le_refl _) (.int .i64 (a / 64 % 8)))).setCell (p := ⟨w.heap.size, 5, none⟩) (Nat.le_refl _) (.int .i64 0))
    clear KE
    go_wp2_with fail
    refine bodyPost_ret (v := .tuple #[.agg #[.int .i64 (6 + a / 512 % 2), .int .i64 (a % 8), .int .i64 (a / 8 % 8), .int .i64 0, .int .i64 (a / 64 % 8), .int .i64 0], .int .i64 1]) (by rw [results_cell_tmp rfl]; go_simp) rfl ?_
    exact ⟨_, ⟨(6 + a / 512 % 2), (a % 8), (a / 8 % 8), 0, (a / 64 % 8), 0⟩, rfl, HE.out, by unfold RefOne; rw [HE0.out, HRR.out]; rfl⟩
set_option maxHeartbeats 16000000 in
set_option maxRecDepth 100000 in
theorem refDec_arm3 (g o n c : Nat) (a : Int) (w : World) (hn : 1 ≤ n) (ca : w.cell? ⟨g, o, none⟩ = some (.int .u16 a)) (h1 : a / 2048 ≠ 30) (ha : 0 ≤ a) (ha' : a < 65536) (g0 : ¬ (a < 6144)) (g1 : ¬ (a < 7168)) (g2 : ¬ (a < 8192)) (g3 : a < 16384) :
    Calls Try.prog 42 #[.slice (some ⟨g, o, none⟩) n c] w fun e w' => ∃ k : Int, ∃ i : Ins, e = .returned (.tuple #[.agg #[.int .i64 i.op, .int .i64 i.d, .int .i64 i.n, .int .i64 i.m, .int .i64 i.imm, .int .i64 i.cond], .int .i64 k]) ∧ Below w.heap.size w w' ∧ RefOne a k i := by
  have ca' : (w.alloc (.cells #[.int .i64 0, .int .i64 0, .int .i64 0, .int .i64 0, .int .i64 0, .int .i64 0] 36)).cell? ⟨g, o, none⟩ = some (.int .u16 a) := cell_new ca
  have hn1 : (0 : Int) < (n : Int) := by omega
  have b1 : (a / 2048 == 30) = false := by simpa using h1
  have t8 : a.tmod 8 = a % 8 := Int.tmod_eq_emod_of_nonneg ha
  have c0 : 6144 ≤ a := by omega
  have c1 : 7168 ≤ a := by omega
  have c2 : 8192 ≤ a := by omega
  have c3 : a < 16384 := by omega
  have H1 := Lib.hid h1
  have P0 := Lib.hid g0
  have P1 := Lib.hid g1
  have P2 := Lib.hid g2
  have P3 := Lib.hid g3
  clear h1 g0 g1 g2 g3
  obtain ⟨q0, q1, q2, q3, q4, q5, q6, q7, q8, q9, q10, q11, q12⟩ := qf13 a
  have u3 := sgn8_eq (a % 256) (by omega) (by omega)
  have u4 := sgn11_eq (a % 2048) (by omega) (by omega)
  obtain ⟨v1, v2⟩ := signS_range (a % 256) 256 (by omega) (by omega)
  obtain ⟨v3, v4⟩ := signS_range (a % 2048) 2048 (by omega) (by omega)
  have HE0 : Hid (decR1 a = ⟨8 + a / 2048 % 4, a / 256 % 8, 0, 0, a % 256, 0⟩) := by
    show decR1 a = _
    unfold decR1
    rw [if_neg P0.out, if_neg P1.out, if_neg P2.out, if_pos P3.out]
  have KZ : Hid (Blk ((w.alloc (.cells #[.int .i64 0, .int .i64 0, .int .i64 0, .int .i64 0, .int .i64 0, .int .i64 0] 36)).alloc (.cells #[.int .i64 (8 + a / 2048 % 4), .int .i64 (a / 256 % 8), .int .i64 0, .int .i64 0, .int .i64 (a % 256), .int .i64 0] 36)) w.heap.size 36 #[.int .i64 0, .int .i64 0, .int .i64 0, .int .i64 0, .int .i64 0, .int .i64 0]) := (Blk.new _ _ _).alloc _
  have KI : Hid (Blk ((w.alloc (.cells #[.int .i64 0, .int .i64 0, .int .i64 0, .int .i64 0, .int .i64 0, .int .i64 0] 36)).alloc (.cells #[.int .i64 (8 + a / 2048 % 4), .int .i64 (a / 256 % 8), .int .i64 0, .int .i64 0, .int .i64 (a % 256), .int .i64 0] 36)) (w.heap.size + 1) 36 #[.int .i64 (8 + a / 2048 % 4), .int .i64 (a / 256 % 8), .int .i64 0, .int .i64 0, .int .i64 (a % 256), .int .i64 0]) := Blk.new' _ _ _ _ (by simp only [World.size_alloc])
  have HB : Hid (Below w.heap.size w ((w.alloc (.cells #[.int .i64 0, .int .i64 0, .int .i64 0, .int .i64 0, .int .i64 0, .int .i64 0] 36)).alloc (.cells #[.int .i64 (8 + a / 2048 % 4), .int .i64 (a / 256 % 8), .int .i64 0, .int .i64 0, .int .i64 (a % 256), .int .i64 0] 36))) := ((Below.refl _ _).alloc (Nat.le_refl _) _).alloc (by simp) _
  go_enter Try.func42, Try.ntmps42
  go_wp2_with (first | (go_at_call 67; (first | (with_reducible refine (sign_8 _ _).mono ?_) | (with_reducible refine (sign_11 _ _).mono ?_)); rintro e w' ⟨rfl, rfl⟩; (try rw [u3]); (try rw [u4])))
  refine (refRight_c ⟨(8 + a / 2048 % 4), (a / 256 % 8), 0, 0, (a % 256), 0⟩ _).mono ?_
  rintro e w2 ⟨rfl, hb⟩
  have HB2 := Lib.hid (HB.out.trans (hb.mono HB.out.size))
  have KZ2 := Lib.hid (KZ.out.only (S := fun _ => False) (Only.of_below hb) id)
  have ki := Blk.six (KI.out.only (S := fun _ => False) (Only.of_below hb) id)
  clear hb
  obtain ⟨z0, z1, z2, z3, z4, z5, zf0, zf1, zf2, zf3, zf4, zf5⟩ := six12 KZ2.out
  cases hr : rightS ⟨(8 + a / 2048 % 4), (a / 256 % 8), 0, 0, (a % 256), 0⟩
  · have HRR := Lib.hid hr
    clear hr
    go_wp2_with fail
    have KE : Blk ((((((w2.setCell ⟨w.heap.size, 0, none⟩ (.int .i64 0)).setCell ⟨w.heap.size, 1, none⟩ (.int .i64 0)).setCell ⟨w.heap.size, 2, none⟩ (.int .i64 0)).setCell ⟨w.heap.size, 3, none⟩ (.int .i64 0)).setCell ⟨w.heap.size, 4, none⟩ (.int .i64 0)).setCell ⟨w.heap.size, 5, none⟩ (.int .i64 0)) w.heap.size 36 #[.int .i64 0, .int .i64 0, .int .i64 0, .int .i64 0, .int .i64 0, .int .i64 0] := ((((((((((((KZ2.out).set 0 _)).set 1 _)).set 2 _)).set 3 _)).set 4 _)).set 5 _)
    have ke := Blk.six KE
    have HE := Lib.hid ((((((((((((HB2.out).setCell (p := ⟨w.heap.size, 0, none⟩) (Nat.le_refl _) (.int .i64 0))).setCell (p := ⟨w.heap.size, 1, none⟩) (Nat.le_refl _) (.int .i64 0))).setCell (p := ⟨w.heap.size, 2, none⟩) (Nat.le_refl _) (.int .i64 0))).setCell (p := ⟨w.heap.size, 3, none⟩) (Nat.le_refl _) (.int .i64 0))).setCell (p := ⟨w.heap.size, 4, none⟩) (Nat.le_refl _) (.int .i64 0))).setCell (p := ⟨w.heap.size, 5, none⟩) (Nat.le_refl _) (.int .i64 0))
    clear KE
    go_wp2_with fail
    refine bodyPost_ret (v := .tuple #[.agg #[.int .i64 0, .int .i64 0, .int .i64 0, .int .i64 0, .int .i64 0, .int .i64 0], .int .i64 (-1)]) (by rw [results_cell_tmp rfl]; go_simp) rfl ?_
    exact ⟨_, ⟨0, 0, 0, 0, 0, 0⟩, rfl, HE.out, by unfold RefOne; rw [HE0.out, HRR.out]; rfl⟩
  · have HRR := Lib.hid hr
    clear hr
    go_wp2_with fail
    have KE : Blk ((((((w2.setCell ⟨w.heap.size, 0, none⟩ (.int .i64 (8 + a / 2048 % 4))).setCell ⟨w.heap.size, 1, none⟩ (.int .i64 (a / 256 % 8))).setCell ⟨w.heap.size, 2, none⟩ (.int .i64 0)).setCell ⟨w.heap.size, 3, none⟩ (.int .i64 0)).setCell ⟨w.heap.size, 4, none⟩ (.int .i64 (a % 256))).setCell ⟨w.heap.size, 5, none⟩ (.int .i64 0)) w.heap.size 36 #[.int .i64 (8 + a / 2048 % 4), .int .i64 (a / 256 % 8), .int .i64 0, .int .i64 0, .int .i64 (a % 256), .int .i64 0] := ((((((((((((KZ2.out).set 0 _)).set 1 _)).set 2 _)).set 3 _)).set 4 _)).set 5 _)
    have ke := Blk.six KE
    have HE := Lib.hid ((((((((((((HB2.out).setCell (p := ⟨w.heap.size, 0, none⟩) (Nat.le_refl _) (.int .i64 (8 + a / 2048 % 4)))).setCell (p := ⟨w.heap.size, 1, none⟩) (Nat.le_refl _) (.int .i64 (a / 256 % 8)))).setCell (p := ⟨w.heap.size, 2, none⟩) (Nat.le_refl _) (.int .i64 0))).setCell (p := ⟨w.heap.size, 3, none⟩) (Nat.le_refl _) (.int .i64 0))).setCell (p := ⟨w.heap.size, 4, none⟩) (Nat.le_refl _) (.int .i64 (a % 256)))).setCell (p := ⟨w.heap.size, 5, none⟩) (Nat.le_refl _) (.int .i64 0))
    clear KE
    go_wp2_with fail
    refine bodyPost_ret (v := .tuple #[.agg #[.int .i64 (8 + a / 2048 % 4), .int .i64 (a / 256 % 8), .int .i64 0, .int .i64 0, .int .i64 (a % 256), .int .i64 0], .int .i64 1]) (by rw [results_cell_tmp rfl]; go_simp) rfl ?_
    exact ⟨_, ⟨(8 + a / 2048 % 4), (a / 256 % 8), 0, 0, (a % 256), 0⟩, rfl, HE.out, by unfold RefOne; rw [HE0.out, HRR.out]; rfl⟩
end Go.Proofs.Ytpihjhfaeloapaa
