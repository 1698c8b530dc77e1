/- MERGED by mergech.py: XThM XThN XThS. -/
import Derived.Test.YtpihjhfaeloapaaThL
import Derived.Test.YtpihjhfaeloapaaTh5
import Derived.Deep.RegionHeld3
import Derived.Deep.QuietTactic
import Derived.BigQuiet
namespace Go.Proofs.Ytpihjhfaeloapaa
open Go.RowKit On Th

set_option maxHeartbeats 4000000 in
theorem decode_mov (g o n c : Nat) (a : Int) (w : World) (hn : 1 ≤ n) (ca : w.cell? ⟨g, o, none⟩ = some (.int .u16 a)) (_ : a / 2048 ≠ 30) (h2 : a / 256 = 70) (ha : 0 ≤ a) (ha' : a < 65536) :
    Calls Try.prog 53 #[.slice (some ⟨g, o, none⟩) n c] w (DecAt (if rightS (movI a) then (movI a, 1, 0) else (⟨0, 0, 0, 0, 0, 0⟩, 0, 8)) w) := by
  have ca' : (w.alloc (.cells #[.int .i64 0, .int .i64 0, .int .i64 0, .int .i64 0, .int .i64 0, .int .i64 0] 36)).cell? ⟨g, o, none⟩ = some (.int .u16 a) := cell_new ca
  have hn1 : (0 : Int) < (n : Int) := by omega
  have q1 : bits .and .u16 (a / 128) 1 = a / 128 % 2 := u16_m1 (by omega) (by omega)
  have q2 : bits .and .u16 a 7 = a % 8 := u16_m7 ha ha'
  have q3 : bits .and .u16 (a / 8) 15 = a / 8 % 16 := u16_m15 (by omega) (by omega)
  have q4 : bits .or .i64 (a / 128 % 2 * 8) (a % 8) = a / 128 % 2 * 8 + a % 8 := by
    rcases m2 (a / 128) with h | h <;> rw [h] <;> exact i64_join 3 (by decide) (by decide) (by decide) (by omega) (by omega) (by omega)
  have KZ : Blk ((w.alloc (.cells #[.int .i64 0, .int .i64 0, .int .i64 0, .int .i64 0, .int .i64 0, .int .i64 0] 36)).alloc (.cells #[.int .i64 28, .int .i64 (a / 128 % 2 * 8 + a % 8), .int .i64 0, .int .i64 (a / 8 % 16), .int .i64 0, .int .i64 0] 36)) w.heap.size 36 #[.int .i64 0, .int .i64 0, .int .i64 0, .int .i64 0, .int .i64 0, .int .i64 0] := (Blk.new _ _ _).alloc _
  have KI : Blk ((w.alloc (.cells #[.int .i64 0, .int .i64 0, .int .i64 0, .int .i64 0, .int .i64 0, .int .i64 0] 36)).alloc (.cells #[.int .i64 28, .int .i64 (a / 128 % 2 * 8 + a % 8), .int .i64 0, .int .i64 (a / 8 % 16), .int .i64 0, .int .i64 0] 36)) (w.heap.size + 1) 36 #[.int .i64 28, .int .i64 (a / 128 % 2 * 8 + a % 8), .int .i64 0, .int .i64 (a / 8 % 16), .int .i64 0, .int .i64 0] := Blk.new' _ _ _ _ (by simp only [World.size_alloc])
  have HB0 : Hid (Below w.heap.size w ((w.alloc (.cells #[.int .i64 0, .int .i64 0, .int .i64 0, .int .i64 0, .int .i64 0, .int .i64 0] 36)).alloc (.cells #[.int .i64 28, .int .i64 (a / 128 % 2 * 8 + a % 8), .int .i64 0, .int .i64 (a / 8 % 16), .int .i64 0, .int .i64 0] 36))) := ((Below.refl _ _).alloc (Nat.le_refl _) _).alloc (by simp) _
  have KZ := Lib.hid KZ
  have KI := Lib.hid KI
  cases hr : rightS (movI a)
  · rw [if_neg (by simp)]
    have HR := Lib.hid hr
    clear hr
    go_enter Try.func53, Try.ntmps53
    go_wp2_with fail
    refine (right_c (movI a) _).mono ?_
    rintro e w2 ⟨rfl, hb⟩
    rw [HR.out]
    have k2 := KZ.out.only (S := fun _ => False) (Only.of_below hb) id
    have z0 : w2.cell? ⟨w.heap.size, 0, none⟩ = some (.int .i64 0) := k2.cell 0
    have z1 : w2.cell? ⟨w.heap.size, 1, none⟩ = some (.int .i64 0) := k2.cell 1
    have z2 : w2.cell? ⟨w.heap.size, 2, none⟩ = some (.int .i64 0) := k2.cell 2
    have z3 : w2.cell? ⟨w.heap.size, 3, none⟩ = some (.int .i64 0) := k2.cell 3
    have z4 : w2.cell? ⟨w.heap.size, 4, none⟩ = some (.int .i64 0) := k2.cell 4
    have z5 : w2.cell? ⟨w.heap.size, 5, none⟩ = some (.int .i64 0) := k2.cell 5
    have f0 : w2.frozen? ⟨w.heap.size, 0, none⟩ = false := k2.frozen 0
    have f1 : w2.frozen? ⟨w.heap.size, 1, none⟩ = false := k2.frozen 1
    have f2 : w2.frozen? ⟨w.heap.size, 2, none⟩ = false := k2.frozen 2
    have f3 : w2.frozen? ⟨w.heap.size, 3, none⟩ = false := k2.frozen 3
    have f4 : w2.frozen? ⟨w.heap.size, 4, none⟩ = false := k2.frozen 4
    have f5 : w2.frozen? ⟨w.heap.size, 5, none⟩ = false := k2.frozen 5
    have KZ2 := Lib.hid k2
    have HB2 := Lib.hid (HB0.out.trans (hb.mono HB0.out.size))
    clear k2 hb
    go_wp2_with fail
    have KE : Blk ((((((w2.setCell ⟨w.heap.size, 0, none⟩ (.int .i64 0)).setCell ⟨w.heap.size, 1, none⟩ (.int .i64 0)).setCell ⟨w.heap.size, 2, none⟩ (.int .i64 0)).setCell ⟨w.heap.size, 3, none⟩ (.int .i64 0)).setCell ⟨w.heap.size, 4, none⟩ (.int .i64 0)).setCell ⟨w.heap.size, 5, none⟩ (.int .i64 0)) w.heap.size 36 #[.int .i64 0, .int .i64 0, .int .i64 0, .int .i64 0, .int .i64 0, .int .i64 0] := ((((((((((((KZ2.out).set 0 _)).set 1 _)).set 2 _)).set 3 _)).set 4 _)).set 5 _)
    have ke := Blk.six KE
    have HE := Lib.hid ((((((((((((HB2.out).setCell (p := ⟨w.heap.size, 0, none⟩) (Nat.le_refl _) (.int .i64 0))).setCell (p := ⟨w.heap.size, 1, none⟩) (Nat.le_refl _) (.int .i64 0))).setCell (p := ⟨w.heap.size, 2, none⟩) (Nat.le_refl _) (.int .i64 0))).setCell (p := ⟨w.heap.size, 3, none⟩) (Nat.le_refl _) (.int .i64 0))).setCell (p := ⟨w.heap.size, 4, none⟩) (Nat.le_refl _) (.int .i64 0))).setCell (p := ⟨w.heap.size, 5, none⟩) (Nat.le_refl _) (.int .i64 0))
    clear z0 f0 z1 f1 z2 f2 z3 f3 z4 f4 z5 f5 KE
    go_wp2_with fail
    refine bodyPost_ret (v := .tuple #[.agg #[.int .i64 0, .int .i64 0, .int .i64 0, .int .i64 0, .int .i64 0, .int .i64 0], .int .i64 0, .int .i64 8]) (by rw [results_cell_tmp2 rfl]; go_simp) rfl ?_
    exact ⟨rfl, HE.out⟩
  · rw [if_pos rfl]
    have HR := Lib.hid hr
    clear hr
    go_enter Try.func53, Try.ntmps53
    go_wp2_with fail
    refine (right_c (movI a) _).mono ?_
    rintro e w2 ⟨rfl, hb⟩
    rw [HR.out]
    have k2 := KZ.out.only (S := fun _ => False) (Only.of_below hb) id
    have z0 : w2.cell? ⟨w.heap.size, 0, none⟩ = some (.int .i64 0) := k2.cell 0
    have z1 : w2.cell? ⟨w.heap.size, 1, none⟩ = some (.int .i64 0) := k2.cell 1
    have z2 : w2.cell? ⟨w.heap.size, 2, none⟩ = some (.int .i64 0) := k2.cell 2
    have z3 : w2.cell? ⟨w.heap.size, 3, none⟩ = some (.int .i64 0) := k2.cell 3
    have z4 : w2.cell? ⟨w.heap.size, 4, none⟩ = some (.int .i64 0) := k2.cell 4
    have z5 : w2.cell? ⟨w.heap.size, 5, none⟩ = some (.int .i64 0) := k2.cell 5
    have f0 : w2.frozen? ⟨w.heap.size, 0, none⟩ = false := k2.frozen 0
    have f1 : w2.frozen? ⟨w.heap.size, 1, none⟩ = false := k2.frozen 1
    have f2 : w2.frozen? ⟨w.heap.size, 2, none⟩ = false := k2.frozen 2
    have f3 : w2.frozen? ⟨w.heap.size, 3, none⟩ = false := k2.frozen 3
    have f4 : w2.frozen? ⟨w.heap.size, 4, none⟩ = false := k2.frozen 4
    have f5 : w2.frozen? ⟨w.heap.size, 5, none⟩ = false := k2.frozen 5
    have KZ2 := Lib.hid k2
    have HB2 := Lib.hid (HB0.out.trans (hb.mono HB0.out.size))
    have ki := Blk.six (KI.out.only (S := fun _ => False) (Only.of_below hb) id)
    clear k2 hb
    go_wp2_with fail
    have KE : Blk ((((((w2.setCell ⟨w.heap.size, 0, none⟩ (.int .i64 28)).setCell ⟨w.heap.size, 1, none⟩ (.int .i64 (a / 128 % 2 * 8 + a % 8))).setCell ⟨w.heap.size, 2, none⟩ (.int .i64 0)).setCell ⟨w.heap.size, 3, none⟩ (.int .i64 (a / 8 % 16))).setCell ⟨w.heap.size, 4, none⟩ (.int .i64 0)).setCell ⟨w.heap.size, 5, none⟩ (.int .i64 0)) w.heap.size 36 #[.int .i64 28, .int .i64 (a / 128 % 2 * 8 + a % 8), .int .i64 0, .int .i64 (a / 8 % 16), .int .i64 0, .int .i64 0] := ((((((((((((KZ2.out).set 0 _)).set 1 _)).set 2 _)).set 3 _)).set 4 _)).set 5 _)
    have ke := Blk.six KE
    have HE := Lib.hid ((((((((((((HB2.out).setCell (p := ⟨w.heap.size, 0, none⟩) (Nat.le_refl _) (.int .i64 28))).setCell (p := ⟨w.heap.size, 1, none⟩) (Nat.le_refl _) (.int .i64 (a / 128 % 2 * 8 + a % 8)))).setCell (p := ⟨w.heap.size, 2, none⟩) (Nat.le_refl _) (.int .i64 0))).setCell (p := ⟨w.heap.size, 3, none⟩) (Nat.le_refl _) (.int .i64 (a / 8 % 16)))).setCell (p := ⟨w.heap.size, 4, none⟩) (Nat.le_refl _) (.int .i64 0))).setCell (p := ⟨w.heap.size, 5, none⟩) (Nat.le_refl _) (.int .i64 0))
    clear z0 f0 z1 f1 z2 f2 z3 f3 z4 f4 z5 f5 KE
    go_wp2_with fail
    refine bodyPost_ret (v := .tuple #[.agg #[.int .i64 28, .int .i64 (a / 128 % 2 * 8 + a % 8), .int .i64 0, .int .i64 (a / 8 % 16), .int .i64 0, .int .i64 0], .int .i64 1, .int .i64 0]) (by rw [results_cell_tmp2 rfl]; go_simp) rfl ?_
    exact ⟨rfl, HE.out⟩
set_option maxHeartbeats 4000000 in
theorem decode_no (g o n c : Nat) (a o' b : Int) (l : List Sl) (w : World) (hn : 1 ≤ n) (ca : w.cell? ⟨g, o, none⟩ = some (.int .u16 a)) (h1 : a / 2048 ≠ 30) (h2 : a / 256 ≠ 70) (ha : 0 ≤ a) (ha' : a < 65536) (hf : ∀ w, Calls Try.prog 72 #[.int .i64 (opS a)] w (RowAt l o' b false w)) :
    Calls Try.prog 53 #[.slice (some ⟨g, o, none⟩) n c] w (DecAt (⟨0, 0, 0, 0, 0, 0⟩, 0, 8) w) := by
  have ca' : (w.alloc (.cells #[.int .i64 0, .int .i64 0, .int .i64 0, .int .i64 0, .int .i64 0, .int .i64 0] 36)).cell? ⟨g, o, none⟩ = some (.int .u16 a) := cell_new ca
  have hn1 : (0 : Int) < (n : Int) := by omega
  have HF := Lib.hid hf
  have b1 : (a / 2048 == 30) = false := by simpa using h1
  have b2 : (a / 256 == 70) = false := by simpa using h2
  clear hf h1 h2
  have KZ : Hid (Blk (w.alloc (.cells #[.int .i64 0, .int .i64 0, .int .i64 0, .int .i64 0, .int .i64 0, .int .i64 0] 36)) w.heap.size 36 #[.int .i64 0, .int .i64 0, .int .i64 0, .int .i64 0, .int .i64 0, .int .i64 0]) := Blk.new _ _ _
  have HB0 : Hid (Below w.heap.size w (w.alloc (.cells #[.int .i64 0, .int .i64 0, .int .i64 0, .int .i64 0, .int .i64 0, .int .i64 0] 36))) := (Below.refl _ _).alloc (Nat.le_refl _) _
  go_enter Try.func53, Try.ntmps53
  go_wp2_with fail
  refine (op_c a _ ha ha').mono ?_
  rintro e w' ⟨rfl, rfl⟩
  go_wp2_with fail
  refine (HF.out _).mono ?_
  rintro e w2 ⟨A, rfl, hs, hb⟩
  have KZ2 := Lib.hid ((KZ.out.only (S := fun _ => False) (Only.of_below hb) id).alloc (.cells #[.int .i64 o', .int .u16 b, .slice A l.length l.length] 123))
  have HB2 := Lib.hid ((HB0.out.trans (hb.mono HB0.out.size)).alloc (by have := HB0.out.size; have := hb.size; omega) (.cells #[.int .i64 o', .int .u16 b, .slice A l.length l.length] 123))
  have HS2 := Lib.hid (hs.below ((Below.refl _ _).alloc (Nat.le_refl _) (.cells #[.int .i64 o', .int .u16 b, .slice A l.length l.length] 123)))
  clear hs hb
  have z0 : (w2.alloc (.cells #[.int .i64 o', .int .u16 b, .slice A l.length l.length] 123)).cell? ⟨w.heap.size, 0, none⟩ = some (.int .i64 0) := KZ2.out.cell 0
  have z1 : (w2.alloc (.cells #[.int .i64 o', .int .u16 b, .slice A l.length l.length] 123)).cell? ⟨w.heap.size, 1, none⟩ = some (.int .i64 0) := KZ2.out.cell 1
  have z2 : (w2.alloc (.cells #[.int .i64 o', .int .u16 b, .slice A l.length l.length] 123)).cell? ⟨w.heap.size, 2, none⟩ = some (.int .i64 0) := KZ2.out.cell 2
  have z3 : (w2.alloc (.cells #[.int .i64 o', .int .u16 b, .slice A l.length l.length] 123)).cell? ⟨w.heap.size, 3, none⟩ = some (.int .i64 0) := KZ2.out.cell 3
  have z4 : (w2.alloc (.cells #[.int .i64 o', .int .u16 b, .slice A l.length l.length] 123)).cell? ⟨w.heap.size, 4, none⟩ = some (.int .i64 0) := KZ2.out.cell 4
  have z5 : (w2.alloc (.cells #[.int .i64 o', .int .u16 b, .slice A l.length l.length] 123)).cell? ⟨w.heap.size, 5, none⟩ = some (.int .i64 0) := KZ2.out.cell 5
  have f0 : (w2.alloc (.cells #[.int .i64 o', .int .u16 b, .slice A l.length l.length] 123)).frozen? ⟨w.heap.size, 0, none⟩ = false := KZ2.out.frozen 0
  have f1 : (w2.alloc (.cells #[.int .i64 o', .int .u16 b, .slice A l.length l.length] 123)).frozen? ⟨w.heap.size, 1, none⟩ = false := KZ2.out.frozen 1
  have f2 : (w2.alloc (.cells #[.int .i64 o', .int .u16 b, .slice A l.length l.length] 123)).frozen? ⟨w.heap.size, 2, none⟩ = false := KZ2.out.frozen 2
  have f3 : (w2.alloc (.cells #[.int .i64 o', .int .u16 b, .slice A l.length l.length] 123)).frozen? ⟨w.heap.size, 3, none⟩ = false := KZ2.out.frozen 3
  have f4 : (w2.alloc (.cells #[.int .i64 o', .int .u16 b, .slice A l.length l.length] 123)).frozen? ⟨w.heap.size, 4, none⟩ = false := KZ2.out.frozen 4
  have f5 : (w2.alloc (.cells #[.int .i64 o', .int .u16 b, .slice A l.length l.length] 123)).frozen? ⟨w.heap.size, 5, none⟩ = false := KZ2.out.frozen 5
  go_wp2_with fail
  have KE : Blk (((((((w2.alloc (.cells #[.int .i64 o', .int .u16 b, .slice A l.length l.length] 123)).setCell ⟨w.heap.size, 0, none⟩ (.int .i64 0)).setCell ⟨w.heap.size, 1, none⟩ (.int .i64 0)).setCell ⟨w.heap.size, 2, none⟩ (.int .i64 0)).setCell ⟨w.heap.size, 3, none⟩ (.int .i64 0)).setCell ⟨w.heap.size, 4, none⟩ (.int .i64 0)).setCell ⟨w.heap.size, 5, none⟩ (.int .i64 0)) w.heap.size 36 #[.int .i64 0, .int .i64 0, .int .i64 0, .int .i64 0, .int .i64 0, .int .i64 0] := ((((((((((((KZ2.out).set 0 _)).set 1 _)).set 2 _)).set 3 _)).set 4 _)).set 5 _)
  have ke := Blk.six KE
  have HE := Lib.hid ((((((((((((HB2.out).setCell (p := ⟨w.heap.size, 0, none⟩) (Nat.le_refl _) (.int .i64 0))).setCell (p := ⟨w.heap.size, 1, none⟩) (Nat.le_refl _) (.int .i64 0))).setCell (p := ⟨w.heap.size, 2, none⟩) (Nat.le_refl _) (.int .i64 0))).setCell (p := ⟨w.heap.size, 3, none⟩) (Nat.le_refl _) (.int .i64 0))).setCell (p := ⟨w.heap.size, 4, none⟩) (Nat.le_refl _) (.int .i64 0))).setCell (p := ⟨w.heap.size, 5, none⟩) (Nat.le_refl _) (.int .i64 0))
  clear z0 f0 z1 f1 z2 f2 z3 f3 z4 f4 z5 f5 KE
  go_wp2_with fail
  refine bodyPost_ret (v := .tuple #[.agg #[.int .i64 0, .int .i64 0, .int .i64 0, .int .i64 0, .int .i64 0, .int .i64 0], .int .i64 0, .int .i64 8]) (by rw [results_cell_tmp2 rfl]; go_simp) rfl ?_
  exact ⟨rfl, HE.out⟩
set_option maxHeartbeats 4000000 in
theorem decode_row (g o n c : Nat) (a o' b : Int) (l : List Sl) (w : World) (hn : 1 ≤ n) (ca : w.cell? ⟨g, o, none⟩ = some (.int .u16 a)) (h1 : a / 2048 ≠ 30) (h2 : a / 256 ≠ 70) (ha : 0 ≤ a) (ha' : a < 65536) (hf : ∀ w, Calls Try.prog 72 #[.int .i64 (opS a)] w (RowAt l o' b true w)) (hst : ∀ s ∈ l, s.step ≠ 0 ∧ 0 ≤ s.bits ∧ s.bits < 16 ∧ 0 ≤ s.shift ∧ s.shift < 16) (hlen : l.length ≤ 5) :
    Calls Try.prog 53 #[.slice (some ⟨g, o, none⟩) n c] w (DecAt (if ((readUp o' a l l.length).2 == b) && rightS (readUp o' a l l.length).1 then ((readUp o' a l l.length).1, 1, 0) else (⟨0, 0, 0, 0, 0, 0⟩, 0, 8)) w) := by
  have HST := Lib.hid hst
  clear hst
  have HU : Hid (∃ st, readUp o' a l l.length = st) := ⟨_, rfl⟩
  obtain ⟨st, hst⟩ := HU.out
  have HW := Lib.hid hst
  rw [hst]
  clear hst HU
  obtain ⟨⟨so, sd, sn, sm, si, sc⟩, rest⟩ := st
  dsimp only
  cases hk : ((rest == b) && rightS ⟨so, sd, sn, sm, si, sc⟩)
  · rw [if_neg (by simp)]
    have HK := Lib.hid hk
    clear hk
    have ca' : (w.alloc (.cells #[.int .i64 0, .int .i64 0, .int .i64 0, .int .i64 0, .int .i64 0, .int .i64 0] 36)).cell? ⟨g, o, none⟩ = some (.int .u16 a) := cell_new ca
    have hn1 : (0 : Int) < (n : Int) := by omega
    have HF := Lib.hid hf
    have b1 : (a / 2048 == 30) = false := by simpa using h1
    have b2 : (a / 256 == 70) = false := by simpa using h2
    clear hf h1 h2
    have KZ : Hid (Blk (w.alloc (.cells #[.int .i64 0, .int .i64 0, .int .i64 0, .int .i64 0, .int .i64 0, .int .i64 0] 36)) w.heap.size 36 #[.int .i64 0, .int .i64 0, .int .i64 0, .int .i64 0, .int .i64 0, .int .i64 0]) := Blk.new _ _ _
    have HB0 : Hid (Below w.heap.size w (w.alloc (.cells #[.int .i64 0, .int .i64 0, .int .i64 0, .int .i64 0, .int .i64 0, .int .i64 0] 36))) := (Below.refl _ _).alloc (Nat.le_refl _) _
    go_enter Try.func53, Try.ntmps53
    go_wp2_with fail
    refine (op_c a _ ha ha').mono ?_
    rintro e w' ⟨rfl, rfl⟩
    go_wp2_with fail
    refine (HF.out _).mono ?_
    rintro e w2 ⟨A, rfl, hs, hb⟩
    have KZ2 := Lib.hid ((KZ.out.only (S := fun _ => False) (Only.of_below hb) id).alloc (.cells #[.int .i64 o', .int .u16 b, .slice A l.length l.length] 123))
    have HB2 := Lib.hid ((HB0.out.trans (hb.mono HB0.out.size)).alloc (by have := HB0.out.size; have := hb.size; omega) (.cells #[.int .i64 o', .int .u16 b, .slice A l.length l.length] 123))
    have HS2 := Lib.hid (hs.below ((Below.refl _ _).alloc (Nat.le_refl _) (.cells #[.int .i64 o', .int .u16 b, .slice A l.length l.length] 123)))
    clear hs hb
    have kr := (Blk.new w2 123 #[.int .i64 o', .int .u16 b, .slice A l.length l.length])
    have r0 := kr.cell 0
    have r1 := kr.cell 1
    have r2 := kr.cell 2
    simp at r0 r1 r2
    clear kr
    go_wp2_with fail
    refine (read_c o' b a l A _ HS2.out HST.out hlen ha ha').mono ?_
    rintro e w3 ⟨rfl, hb⟩
    rw [HW.out]
    dsimp only [Ins.cells]
    rw [HK.out]
    have KZ3 := Lib.hid ((KZ2.out.only (S := fun _ => False) (Only.of_below hb) id).alloc (.cells #[.int .i64 so, .int .i64 sd, .int .i64 sn, .int .i64 sm, .int .i64 si, .int .i64 sc] 36))
    have HB3 := Lib.hid ((HB2.out.trans (hb.mono HB2.out.size)).alloc (by have := HB2.out.size; have := hb.size; omega) (.cells #[.int .i64 so, .int .i64 sd, .int .i64 sn, .int .i64 sm, .int .i64 si, .int .i64 sc] 36))
    clear hb
    have z0 : (w3.alloc (.cells #[.int .i64 so, .int .i64 sd, .int .i64 sn, .int .i64 sm, .int .i64 si, .int .i64 sc] 36)).cell? ⟨w.heap.size, 0, none⟩ = some (.int .i64 0) := KZ3.out.cell 0
    have z1 : (w3.alloc (.cells #[.int .i64 so, .int .i64 sd, .int .i64 sn, .int .i64 sm, .int .i64 si, .int .i64 sc] 36)).cell? ⟨w.heap.size, 1, none⟩ = some (.int .i64 0) := KZ3.out.cell 1
    have z2 : (w3.alloc (.cells #[.int .i64 so, .int .i64 sd, .int .i64 sn, .int .i64 sm, .int .i64 si, .int .i64 sc] 36)).cell? ⟨w.heap.size, 2, none⟩ = some (.int .i64 0) := KZ3.out.cell 2
    have z3 : (w3.alloc (.cells #[.int .i64 so, .int .i64 sd, .int .i64 sn, .int .i64 sm, .int .i64 si, .int .i64 sc] 36)).cell? ⟨w.heap.size, 3, none⟩ = some (.int .i64 0) := KZ3.out.cell 3
    have z4 : (w3.alloc (.cells #[.int .i64 so, .int .i64 sd, .int .i64 sn, .int .i64 sm, .int .i64 si, .int .i64 sc] 36)).cell? ⟨w.heap.size, 4, none⟩ = some (.int .i64 0) := KZ3.out.cell 4
    have z5 : (w3.alloc (.cells #[.int .i64 so, .int .i64 sd, .int .i64 sn, .int .i64 sm, .int .i64 si, .int .i64 sc] 36)).cell? ⟨w.heap.size, 5, none⟩ = some (.int .i64 0) := KZ3.out.cell 5
    have f0 : (w3.alloc (.cells #[.int .i64 so, .int .i64 sd, .int .i64 sn, .int .i64 sm, .int .i64 si, .int .i64 sc] 36)).frozen? ⟨w.heap.size, 0, none⟩ = false := KZ3.out.frozen 0
    have f1 : (w3.alloc (.cells #[.int .i64 so, .int .i64 sd, .int .i64 sn, .int .i64 sm, .int .i64 si, .int .i64 sc] 36)).frozen? ⟨w.heap.size, 1, none⟩ = false := KZ3.out.frozen 1
    have f2 : (w3.alloc (.cells #[.int .i64 so, .int .i64 sd, .int .i64 sn, .int .i64 sm, .int .i64 si, .int .i64 sc] 36)).frozen? ⟨w.heap.size, 2, none⟩ = false := KZ3.out.frozen 2
    have f3 : (w3.alloc (.cells #[.int .i64 so, .int .i64 sd, .int .i64 sn, .int .i64 sm, .int .i64 si, .int .i64 sc] 36)).frozen? ⟨w.heap.size, 3, none⟩ = false := KZ3.out.frozen 3
    have f4 : (w3.alloc (.cells #[.int .i64 so, .int .i64 sd, .int .i64 sn, .int .i64 sm, .int .i64 si, .int .i64 sc] 36)).frozen? ⟨w.heap.size, 4, none⟩ = false := KZ3.out.frozen 4
    have f5 : (w3.alloc (.cells #[.int .i64 so, .int .i64 sd, .int .i64 sn, .int .i64 sm, .int .i64 si, .int .i64 sc] 36)).frozen? ⟨w.heap.size, 5, none⟩ = false := KZ3.out.frozen 5
    go_wp2_with fail
    have KE : Blk (((((((w3.alloc (.cells #[.int .i64 so, .int .i64 sd, .int .i64 sn, .int .i64 sm, .int .i64 si, .int .i64 sc] 36)).setCell ⟨w.heap.size, 0, none⟩ (.int .i64 0)).setCell ⟨w.heap.size, 1, none⟩ (.int .i64 0)).setCell ⟨w.heap.size, 2, none⟩ (.int .i64 0)).setCell ⟨w.heap.size, 3, none⟩ (.int .i64 0)).setCell ⟨w.heap.size, 4, none⟩ (.int .i64 0)).setCell ⟨w.heap.size, 5, none⟩ (.int .i64 0)) w.heap.size 36 #[.int .i64 0, .int .i64 0, .int .i64 0, .int .i64 0, .int .i64 0, .int .i64 0] := ((((((((((((KZ3.out).set 0 _)).set 1 _)).set 2 _)).set 3 _)).set 4 _)).set 5 _)
    have ke := Blk.six KE
    have HE := Lib.hid ((((((((((((HB3.out).setCell (p := ⟨w.heap.size, 0, none⟩) (Nat.le_refl _) (.int .i64 0))).setCell (p := ⟨w.heap.size, 1, none⟩) (Nat.le_refl _) (.int .i64 0))).setCell (p := ⟨w.heap.size, 2, none⟩) (Nat.le_refl _) (.int .i64 0))).setCell (p := ⟨w.heap.size, 3, none⟩) (Nat.le_refl _) (.int .i64 0))).setCell (p := ⟨w.heap.size, 4, none⟩) (Nat.le_refl _) (.int .i64 0))).setCell (p := ⟨w.heap.size, 5, none⟩) (Nat.le_refl _) (.int .i64 0))
    clear z0 f0 z1 f1 z2 f2 z3 f3 z4 f4 z5 f5 KE
    go_wp2_with fail
    refine bodyPost_ret (v := .tuple #[.agg #[.int .i64 0, .int .i64 0, .int .i64 0, .int .i64 0, .int .i64 0, .int .i64 0], .int .i64 0, .int .i64 8]) (by rw [results_cell_tmp2 rfl]; go_simp) rfl ?_
    exact ⟨rfl, HE.out⟩
  · rw [if_pos rfl]
    have HK := Lib.hid hk
    clear hk
    have ca' : (w.alloc (.cells #[.int .i64 0, .int .i64 0, .int .i64 0, .int .i64 0, .int .i64 0, .int .i64 0] 36)).cell? ⟨g, o, none⟩ = some (.int .u16 a) := cell_new ca
    have hn1 : (0 : Int) < (n : Int) := by omega
    have HF := Lib.hid hf
    have b1 : (a / 2048 == 30) = false := by simpa using h1
    have b2 : (a / 256 == 70) = false := by simpa using h2
    clear hf h1 h2
    have KZ : Hid (Blk (w.alloc (.cells #[.int .i64 0, .int .i64 0, .int .i64 0, .int .i64 0, .int .i64 0, .int .i64 0] 36)) w.heap.size 36 #[.int .i64 0, .int .i64 0, .int .i64 0, .int .i64 0, .int .i64 0, .int .i64 0]) := Blk.new _ _ _
    have HB0 : Hid (Below w.heap.size w (w.alloc (.cells #[.int .i64 0, .int .i64 0, .int .i64 0, .int .i64 0, .int .i64 0, .int .i64 0] 36))) := (Below.refl _ _).alloc (Nat.le_refl _) _
    go_enter Try.func53, Try.ntmps53
    go_wp2_with fail
    refine (op_c a _ ha ha').mono ?_
    rintro e w' ⟨rfl, rfl⟩
    go_wp2_with fail
    refine (HF.out _).mono ?_
    rintro e w2 ⟨A, rfl, hs, hb⟩
    have KZ2 := Lib.hid ((KZ.out.only (S := fun _ => False) (Only.of_below hb) id).alloc (.cells #[.int .i64 o', .int .u16 b, .slice A l.length l.length] 123))
    have HB2 := Lib.hid ((HB0.out.trans (hb.mono HB0.out.size)).alloc (by have := HB0.out.size; have := hb.size; omega) (.cells #[.int .i64 o', .int .u16 b, .slice A l.length l.length] 123))
    have HS2 := Lib.hid (hs.below ((Below.refl _ _).alloc (Nat.le_refl _) (.cells #[.int .i64 o', .int .u16 b, .slice A l.length l.length] 123)))
    clear hs hb
    have kr := (Blk.new w2 123 #[.int .i64 o', .int .u16 b, .slice A l.length l.length])
    have r0 := kr.cell 0
    have r1 := kr.cell 1
    have r2 := kr.cell 2
    simp at r0 r1 r2
    clear kr
    go_wp2_with fail
    refine (read_c o' b a l A _ HS2.out HST.out hlen ha ha').mono ?_
    rintro e w3 ⟨rfl, hb⟩
    rw [HW.out]
    dsimp only [Ins.cells]
    rw [HK.out]
    have KZ3 := Lib.hid ((KZ2.out.only (S := fun _ => False) (Only.of_below hb) id).alloc (.cells #[.int .i64 so, .int .i64 sd, .int .i64 sn, .int .i64 sm, .int .i64 si, .int .i64 sc] 36))
    have HB3 := Lib.hid ((HB2.out.trans (hb.mono HB2.out.size)).alloc (by have := HB2.out.size; have := hb.size; omega) (.cells #[.int .i64 so, .int .i64 sd, .int .i64 sn, .int .i64 sm, .int .i64 si, .int .i64 sc] 36))
    clear hb
    have z0 : (w3.alloc (.cells #[.int .i64 so, .int .i64 sd, .int .i64 sn, .int .i64 sm, .int .i64 si, .int .i64 sc] 36)).cell? ⟨w.heap.size, 0, none⟩ = some (.int .i64 0) := KZ3.out.cell 0
    have z1 : (w3.alloc (.cells #[.int .i64 so, .int .i64 sd, .int .i64 sn, .int .i64 sm, .int .i64 si, .int .i64 sc] 36)).cell? ⟨w.heap.size, 1, none⟩ = some (.int .i64 0) := KZ3.out.cell 1
    have z2 : (w3.alloc (.cells #[.int .i64 so, .int .i64 sd, .int .i64 sn, .int .i64 sm, .int .i64 si, .int .i64 sc] 36)).cell? ⟨w.heap.size, 2, none⟩ = some (.int .i64 0) := KZ3.out.cell 2
    have z3 : (w3.alloc (.cells #[.int .i64 so, .int .i64 sd, .int .i64 sn, .int .i64 sm, .int .i64 si, .int .i64 sc] 36)).cell? ⟨w.heap.size, 3, none⟩ = some (.int .i64 0) := KZ3.out.cell 3
    have z4 : (w3.alloc (.cells #[.int .i64 so, .int .i64 sd, .int .i64 sn, .int .i64 sm, .int .i64 si, .int .i64 sc] 36)).cell? ⟨w.heap.size, 4, none⟩ = some (.int .i64 0) := KZ3.out.cell 4
    have z5 : (w3.alloc (.cells #[.int .i64 so, .int .i64 sd, .int .i64 sn, .int .i64 sm, .int .i64 si, .int .i64 sc] 36)).cell? ⟨w.heap.size, 5, none⟩ = some (.int .i64 0) := KZ3.out.cell 5
    have f0 : (w3.alloc (.cells #[.int .i64 so, .int .i64 sd, .int .i64 sn, .int .i64 sm, .int .i64 si, .int .i64 sc] 36)).frozen? ⟨w.heap.size, 0, none⟩ = false := KZ3.out.frozen 0
    have f1 : (w3.alloc (.cells #[.int .i64 so, .int .i64 sd, .int .i64 sn, .int .i64 sm, .int .i64 si, .int .i64 sc] 36)).frozen? ⟨w.heap.size, 1, none⟩ = false := KZ3.out.frozen 1
    have f2 : (w3.alloc (.cells #[.int .i64 so, .int .i64 sd, .int .i64 sn, .int .i64 sm, .int .i64 si, .int .i64 sc] 36)).frozen? ⟨w.heap.size, 2, none⟩ = false := KZ3.out.frozen 2
    have f3 : (w3.alloc (.cells #[.int .i64 so, .int .i64 sd, .int .i64 sn, .int .i64 sm, .int .i64 si, .int .i64 sc] 36)).frozen? ⟨w.heap.size, 3, none⟩ = false := KZ3.out.frozen 3
    have f4 : (w3.alloc (.cells #[.int .i64 so, .int .i64 sd, .int .i64 sn, .int .i64 sm, .int .i64 si, .int .i64 sc] 36)).frozen? ⟨w.heap.size, 4, none⟩ = false := KZ3.out.frozen 4
    have f5 : (w3.alloc (.cells #[.int .i64 so, .int .i64 sd, .int .i64 sn, .int .i64 sm, .int .i64 si, .int .i64 sc] 36)).frozen? ⟨w.heap.size, 5, none⟩ = false := KZ3.out.frozen 5
    have ki := Blk.six (Blk.new w3 36 #[.int .i64 so, .int .i64 sd, .int .i64 sn, .int .i64 sm, .int .i64 si, .int .i64 sc])
    go_wp2_with fail
    have KE : Blk (((((((w3.alloc (.cells #[.int .i64 so, .int .i64 sd, .int .i64 sn, .int .i64 sm, .int .i64 si, .int .i64 sc] 36)).setCell ⟨w.heap.size, 0, none⟩ (.int .i64 so)).setCell ⟨w.heap.size, 1, none⟩ (.int .i64 sd)).setCell ⟨w.heap.size, 2, none⟩ (.int .i64 sn)).setCell ⟨w.heap.size, 3, none⟩ (.int .i64 sm)).setCell ⟨w.heap.size, 4, none⟩ (.int .i64 si)).setCell ⟨w.heap.size, 5, none⟩ (.int .i64 sc)) w.heap.size 36 #[.int .i64 so, .int .i64 sd, .int .i64 sn, .int .i64 sm, .int .i64 si, .int .i64 sc] := ((((((((((((KZ3.out).set 0 _)).set 1 _)).set 2 _)).set 3 _)).set 4 _)).set 5 _)
    have ke := Blk.six KE
    have HE := Lib.hid ((((((((((((HB3.out).setCell (p := ⟨w.heap.size, 0, none⟩) (Nat.le_refl _) (.int .i64 so))).setCell (p := ⟨w.heap.size, 1, none⟩) (Nat.le_refl _) (.int .i64 sd))).setCell (p := ⟨w.heap.size, 2, none⟩) (Nat.le_refl _) (.int .i64 sn))).setCell (p := ⟨w.heap.size, 3, none⟩) (Nat.le_refl _) (.int .i64 sm))).setCell (p := ⟨w.heap.size, 4, none⟩) (Nat.le_refl _) (.int .i64 si))).setCell (p := ⟨w.heap.size, 5, none⟩) (Nat.le_refl _) (.int .i64 sc))
    clear z0 f0 z1 f1 z2 f2 z3 f3 z4 f4 z5 f5 KE
    go_wp2_with fail
    refine bodyPost_ret (v := .tuple #[.agg #[.int .i64 so, .int .i64 sd, .int .i64 sn, .int .i64 sm, .int .i64 si, .int .i64 sc], .int .i64 1, .int .i64 0]) (by rw [results_cell_tmp2 rfl]; go_simp) rfl ?_
    exact ⟨rfl, HE.out⟩
end Go.Proofs.Ytpihjhfaeloapaa
namespace Go.Proofs.Ytpihjhfaeloapaa
open Go.RowKit On Th
/-- halfwords that a slice holds -/
def Hw (w : World) (s : Value) (hs : List Int) : Prop :=
  ∃ A c, s = .slice A hs.length c ∧ ∀ (k : Nat) x, hs[k]? = some x → 0 ≤ x ∧ x < 65536 ∧ ∃ g o, A = some ⟨g, o, none⟩ ∧ w.cell? ⟨g, o + k, none⟩ = some (.int .u16 x)
theorem decode_c {s : Value} {hs : List Int} {w : World} (h : Hw w s hs) : Calls Try.prog 53 #[s] w (DecAt (decS hs) w) := by
  obtain ⟨A, c, rfl, hk⟩ := h
  cases hs with
  | nil => exact decode_nil A c w
  | cons a t =>
    obtain ⟨ha, ha', g, o, rfl, ca⟩ := hk 0 a rfl
    simp at ca
    unfold decS
    dsimp only
    by_cases h1 : a / 2048 = 30
    · rw [if_pos h1]
      cases t with
      | nil => exact decode_short g o c a w ca h1
      | cons b t =>
        obtain ⟨hb, hb', g', o', e, cb⟩ := hk 1 b rfl
        obtain ⟨rfl, rfl⟩ : g = g' ∧ o = o' := by simpa using e
        dsimp only
        by_cases h2 : bits .and .u16 b 53248 = 53248
        · rw [if_pos h2]
          have := decode_bl g o (a :: b :: t).length c a b w (by simp) ca cb h1 h2
          rw [farE_eq a b ha ha' hb hb'] at this
          exact this
        · rw [if_neg h2]; exact decode_odd g o _ c a b w (by simp) ca cb h1 h2
    · rw [if_neg h1]
      by_cases h2 : a / 256 = 70
      · rw [if_pos h2]; exact decode_mov g o _ c a w (by simp) ca h1 h2 ha ha'
      · rw [if_neg h2]
        cases hr : rowOf (opS a) with
        | none => exact decode_no g o _ c a 0 0 [] w (by simp) ca h1 h2 ha ha' (fun w => (find_c (opS a) w).mono fun e w' h => by unfold FindAt at h; rw [hr] at h; exact h)
        | some p =>
          obtain ⟨b, l⟩ := p
          obtain ⟨k1, k2⟩ := rowOf_ok hr
          exact decode_row g o _ c a (opS a) b l w (by simp) ca h1 h2 ha ha' (fun w => (find_c (opS a) w).mono fun e w' h => by unfold FindAt at h; rw [hr] at h; exact h) k1 k2
set_option maxHeartbeats 1000000 in
theorem size_c (op d n m imm cond : Int) (w : World) : Calls Try.prog 35 #[.agg #[.int .i64 op, .int .i64 d, .int .i64 n, .int .i64 m, .int .i64 imm, .int .i64 cond]] w fun e w' => e = .returned (.int .i64 (if op = 43 then 4 else 2)) ∧ Below w.heap.size w w' := by
  go_enter Try.func35, Try.ntmps35
  by_cases h : op = 43
  · subst h
    go_wp2_with fail
    go_ret
    exact ⟨rfl, (Below.refl _ _).alloc (Nat.le_refl _) _⟩
  · have h' : (op == 43) = false := by simpa using h
    rw [if_neg h]
    clear h
    go_wp2_with fail
    go_ret
    exact ⟨rfl, (Below.refl _ _).alloc (Nat.le_refl _) _⟩
end Go.Proofs.Ytpihjhfaeloapaa
namespace Go.Proofs.Ytpihjhfaeloapaa
open Go.RowKit On Th
theorem Hw.below {w w' : World} {s : Value} {hs : List Int} (h : Hw w s hs) (hb : Below w.heap.size w w') : Hw w' s hs := by
  obtain ⟨A, c, h1, h2⟩ := h
  exact ⟨A, c, h1, fun k x hx => by
    obtain ⟨k1, k2, g, o, k3, k4⟩ := h2 k x hx
    exact ⟨k1, k2, g, o, k3, by rw [hb.cell (block_lt_of_cell k4)]; exact k4⟩⟩
theorem belowN {B : Nat} {a w : World} (h : Below B a w) (n : Nat) : Below B a (w.drewN n) := ⟨h.os, h.tape, h.output, h.size, h.block⟩
end Go.Proofs.Ytpihjhfaeloapaa
