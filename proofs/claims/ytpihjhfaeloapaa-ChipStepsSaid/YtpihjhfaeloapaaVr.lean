/- MERGED by mergev.py: XTd9 XTd2 XTd3. -/
import Derived.Test.YtpihjhfaeloapaaTd4
import Derived.Test.YtpihjhfaeloapaaTd5
import Derived.Test.YtpihjhfaeloapaaTd6
import Derived.Test.YtpihjhfaeloapaaTd7
import Derived.Test.YtpihjhfaeloapaaTd8
import Derived.Test.YtpihjhfaeloapaaVd
import Derived.Test.YtpihjhfaeloapaaVt
import Derived.BigGuardPart
namespace Go.Proofs.Ytpihjhfaeloapaa
open Go.RowKit On Th
theorem refDec_one (g o n c : Nat) (a : Int) (w : World) (hn : 1 ≤ n) (ca : w.cell? ⟨g, o, none⟩ = some (.int .u16 a)) (h1 : a / 2048 ≠ 30) (ha : 0 ≤ a) (ha' : a < 65536) :
    Calls Try.prog 42 #[.slice (some ⟨g, o, none⟩) n c] w fun e w' => ∃ k : Int, ∃ i : Ins, e = .returned (.tuple #[.agg #[.int .i64 i.op, .int .i64 i.d, .int .i64 i.n, .int .i64 i.m, .int .i64 i.imm, .int .i64 i.cond], .int .i64 k]) ∧ Below w.heap.size w w' ∧ RefOne a k i := by
  by_cases g0 : a < 6144
  · by_cases s1 : a / 2048 = 0
    · exact refDec_arm0a g o n c a w hn ca h1 ha ha' g0 s1
    · by_cases s2 : a / 64 % 32 = 0
      · exact refDec_arm0b g o n c a w hn ca h1 ha ha' g0 ⟨s1, s2⟩
      · exact refDec_arm0c g o n c a w hn ca h1 ha ha' g0 ⟨s1, s2⟩
  by_cases g1 : a < 7168
  · exact refDec_arm1 g o n c a w hn ca h1 ha ha' g0 g1
  by_cases g2 : a < 8192
  · exact refDec_arm2 g o n c a w hn ca h1 ha ha' g0 g1 g2
  by_cases g3 : a < 16384
  · exact refDec_arm3 g o n c a w hn ca h1 ha ha' g0 g1 g2 g3
  by_cases g4 : a < 17408
  · exact refDec_arm4 g o n c a w hn ca h1 ha ha' g0 g1 g2 g3 g4
  by_cases g5 : a / 256 = 70
  · exact refDec_arm5 g o n c a w hn ca h1 ha ha' g0 g1 g2 g3 g4 g5
  by_cases g6 : a / 512 = 40
  · exact refDec_arm6 g o n c a w hn ca h1 ha ha' g0 g1 g2 g3 g4 g5 g6
  by_cases g7 : a / 512 = 44
  · exact refDec_arm7 g o n c a w hn ca h1 ha ha' g0 g1 g2 g3 g4 g5 g6 g7
  by_cases g8 : a / 2048 = 12
  · exact refDec_arm8 g o n c a w hn ca h1 ha ha' g0 g1 g2 g3 g4 g5 g6 g7 g8
  by_cases g9 : a / 2048 = 13
  · exact refDec_arm9 g o n c a w hn ca h1 ha ha' g0 g1 g2 g3 g4 g5 g6 g7 g8 g9
  by_cases g10 : a / 2048 = 14
  · exact refDec_arm10 g o n c a w hn ca h1 ha ha' g0 g1 g2 g3 g4 g5 g6 g7 g8 g9 g10
  by_cases g11 : a / 2048 = 15
  · exact refDec_arm11 g o n c a w hn ca h1 ha ha' g0 g1 g2 g3 g4 g5 g6 g7 g8 g9 g10 g11
  by_cases g12 : a / 2048 = 18
  · exact refDec_arm12 g o n c a w hn ca h1 ha ha' g0 g1 g2 g3 g4 g5 g6 g7 g8 g9 g10 g11 g12
  by_cases g13 : a / 2048 = 19
  · exact refDec_arm13 g o n c a w hn ca h1 ha ha' g0 g1 g2 g3 g4 g5 g6 g7 g8 g9 g10 g11 g12 g13
  by_cases g14 : a / 128 = 352
  · exact refDec_arm14 g o n c a w hn ca h1 ha ha' g0 g1 g2 g3 g4 g5 g6 g7 g8 g9 g10 g11 g12 g13 g14
  by_cases g15 : a / 128 = 353
  · exact refDec_arm15 g o n c a w hn ca h1 ha ha' g0 g1 g2 g3 g4 g5 g6 g7 g8 g9 g10 g11 g12 g13 g14 g15
  by_cases g16 : a / 512 = 90
  · exact refDec_arm16 g o n c a w hn ca h1 ha ha' g0 g1 g2 g3 g4 g5 g6 g7 g8 g9 g10 g11 g12 g13 g14 g15 g16
  by_cases g17 : a / 512 = 94
  · exact refDec_arm17 g o n c a w hn ca h1 ha ha' g0 g1 g2 g3 g4 g5 g6 g7 g8 g9 g10 g11 g12 g13 g14 g15 g16 g17
  by_cases g18 : a = 48896
  · exact refDec_arm18 g o n c a w hn ca h1 ha ha' g0 g1 g2 g3 g4 g5 g6 g7 g8 g9 g10 g11 g12 g13 g14 g15 g16 g17 g18
  by_cases g19 : (a / 4096 = 13 ∧ a / 256 % 16 < 14)
  · exact refDec_arm19 g o n c a w hn ca h1 ha ha' g0 g1 g2 g3 g4 g5 g6 g7 g8 g9 g10 g11 g12 g13 g14 g15 g16 g17 g18 g19
  by_cases g20 : a / 256 = 223
  · exact refDec_arm20 g o n c a w hn ca h1 ha ha' g0 g1 g2 g3 g4 g5 g6 g7 g8 g9 g10 g11 g12 g13 g14 g15 g16 g17 g18 g19 g20
  by_cases g21 : a / 2048 = 28
  · exact refDec_arm21 g o n c a w hn ca h1 ha ha' g0 g1 g2 g3 g4 g5 g6 g7 g8 g9 g10 g11 g12 g13 g14 g15 g16 g17 g18 g19 g20 g21
  exact refDec_arm22 g o n c a w hn ca h1 ha ha' g0 g1 g2 g3 g4 g5 g6 g7 g8 g9 g10 g11 g12 g13 g14 g15 g16 g17 g18 g19 g20 g21
end Go.Proofs.Ytpihjhfaeloapaa
namespace Go.Proofs.Ytpihjhfaeloapaa
open Go.RowKit On Th
/-- what the document's Decode answers -/
def RefAt (i : Ins) (k : Int) (w : World) (e : Ending) (w' : World) : Prop :=
  e = .returned (.tuple #[.agg #[.int .i64 i.op, .int .i64 i.d, .int .i64 i.n, .int .i64 i.m, .int .i64 i.imm, .int .i64 i.cond], .int .i64 k]) ∧ Below w.heap.size w w'
set_option maxHeartbeats 8000000 in
set_option maxRecDepth 100000 in
theorem refDec_nil (A : Option Addr) (c : Nat) (w : World) : Calls Try.prog 42 #[.slice A 0 c] w (RefAt ⟨0, 0, 0, 0, 0, 0⟩ 0 w) := by
  go_enter Try.func42, Try.ntmps42
  go_wp2_with fail
  refine bodyPost_ret (v := .tuple #[.agg #[.int .i64 0, .int .i64 0, .int .i64 0, .int .i64 0, .int .i64 0, .int .i64 0], .int .i64 0]) (by rw [results_cell_tmp rfl]; go_simp) rfl ?_
  exact ⟨rfl, (Below.refl _ _).alloc (Nat.le_refl _) _⟩
set_option maxHeartbeats 8000000 in
set_option maxRecDepth 100000 in
theorem refDec_short (g o c : Nat) (a : Int) (w : World) (ca : w.cell? ⟨g, o, none⟩ = some (.int .u16 a)) (h1 : a / 2048 = 30) (_ : 0 ≤ a) (_ : a < 65536) :
    Calls Try.prog 42 #[.slice (some ⟨g, o, none⟩) 1 c] w (RefAt ⟨0, 0, 0, 0, 0, 0⟩ 0 w) := by
  have ca' : (w.alloc (.cells #[.int .i64 0, .int .i64 0, .int .i64 0, .int .i64 0, .int .i64 0, .int .i64 0] 36)).cell? ⟨g, o, none⟩ = some (.int .u16 a) := cell_new ca
  go_enter Try.func42, Try.ntmps42
  go_wp2_with fail
  refine bodyPost_ret (v := .tuple #[.agg #[.int .i64 0, .int .i64 0, .int .i64 0, .int .i64 0, .int .i64 0, .int .i64 0], .int .i64 0]) (by rw [results_cell_tmp rfl]; go_simp) rfl ?_
  exact ⟨rfl, (Below.refl _ _).alloc (Nat.le_refl _) _⟩
set_option maxHeartbeats 8000000 in
set_option maxRecDepth 100000 in
theorem refDec_odd (g o n c : Nat) (a b : Int) (w : World) (hn : 2 ≤ n) (ca : w.cell? ⟨g, o, none⟩ = some (.int .u16 a)) (cb : w.cell? ⟨g, o + 1, none⟩ = some (.int .u16 b)) (h1 : a / 2048 = 30) (h2 : ¬ (b / 16384 = 3 ∧ b / 4096 % 2 = 1)) (_ : 0 ≤ a) (_ : a < 65536) (hb : 0 ≤ b) (hb' : b < 65536) :
    Calls Try.prog 42 #[.slice (some ⟨g, o, none⟩) n c] w (RefAt ⟨0, 0, 0, 0, 0, 0⟩ (-1) w) := by
  have ca' : (w.alloc (.cells #[.int .i64 0, .int .i64 0, .int .i64 0, .int .i64 0, .int .i64 0, .int .i64 0] 36)).cell? ⟨g, o, none⟩ = some (.int .u16 a) := cell_new ca
  have cb' : (w.alloc (.cells #[.int .i64 0, .int .i64 0, .int .i64 0, .int .i64 0, .int .i64 0, .int .i64 0] 36)).cell? ⟨g, o + 1, none⟩ = some (.int .u16 b) := cell_new cb
  have hn1 : (0 : Int) < (n : Int) := by omega
  have hn2 : (1 : Int) < (n : Int) := by omega
  have q : bits .and .i64 (b / 4096) 1 = b / 4096 % 2 := i64_m1 _
  rcases (show b / 16384 ≠ 3 ∨ (b / 16384 = 3 ∧ b / 4096 % 2 = 0) by omega) with h3 | ⟨h3, h4⟩
  · have h3' : (b / 16384 == 3) = false := by simpa using h3
    have h3'' : (b / 16384 != 3) = true := by simp [bne, h3']
    clear h3 h2
    go_enter Try.func42, Try.ntmps42
    go_wp2_with fail
    refine bodyPost_ret (v := .tuple #[.agg #[.int .i64 0, .int .i64 0, .int .i64 0, .int .i64 0, .int .i64 0, .int .i64 0], .int .i64 (-1)]) (by rw [results_cell_tmp rfl]; go_simp) rfl ?_
    exact ⟨rfl, (Below.refl _ _).alloc (Nat.le_refl _) _⟩
  · rw [h4] at q
    clear h2 h4
    go_enter Try.func42, Try.ntmps42
    go_wp2_with fail
    refine bodyPost_ret (v := .tuple #[.agg #[.int .i64 0, .int .i64 0, .int .i64 0, .int .i64 0, .int .i64 0, .int .i64 0], .int .i64 (-1)]) (by rw [results_cell_tmp rfl]; go_simp) rfl ?_
    exact ⟨rfl, (Below.refl _ _).alloc (Nat.le_refl _) _⟩
def sgn25 (n : Int) : Int := if 16777216 ≤ n then wrap64 (n - 33554432) else n
set_option maxHeartbeats 1000000 in
theorem sign_25 (n : Int) (w : World) : Calls Try.prog 67 #[.int .i64 n, .int .i64 25] w fun e w' => e = .returned (.int .i64 (sgn25 n)) ∧ w = w' := by
  have hs : Hid (sgn25 n = if 16777216 ≤ n then wrap64 (n - 33554432) else n) := rfl
  by_cases h : 16777216 ≤ n
  · rw [hs.out, if_pos h]; clear hs
    go_enter Try.func67, Try.ntmps67
    go_wp2_with fail
    go_ret
    exact ⟨rfl, rfl⟩
  · rw [hs.out, if_neg h]; clear hs
    go_enter Try.func67, Try.ntmps67
    go_wp2_with fail
    go_ret
    exact ⟨rfl, rfl⟩
def refN (a b : Int) : Int :=
  bits .or .i64 (bits .or .i64 (bits .or .i64 (bits .or .i64 (wrap64 (bits .and .i64 (a / 1024) 1 * 16777216)) (wrap64 (wrap64 (1 - bits .xor .i64 (bits .and .i64 (b / 8192) 1) (bits .and .i64 (a / 1024) 1)) * 8388608))) (wrap64 (wrap64 (1 - bits .xor .i64 (bits .and .i64 (b / 2048) 1) (bits .and .i64 (a / 1024) 1)) * 4194304))) (wrap64 (bits .and .i64 a 1023 * 4096))) (wrap64 (bits .and .i64 b 2047 * 2))
theorem refN_join {s j k A B : Int} (hs : s = 0 ∨ s = 1) (hj : j = 0 ∨ j = 1) (hk : k = 0 ∨ k = 1) (hA : 0 ≤ A) (hA' : A < 1024) (hB : 0 ≤ B) (hB' : B < 2048) :
    sgn25 (bits .or .i64 (bits .or .i64 (bits .or .i64 (bits .or .i64 (wrap64 (s * 16777216)) (wrap64 (wrap64 (1 - bits .xor .i64 j s) * 8388608))) (wrap64 (wrap64 (1 - bits .xor .i64 k s) * 4194304))) (wrap64 (A * 4096))) (wrap64 (B * 2))) = nx j s * 8388608 + nx k s * 4194304 + A * 4096 + B * 2 - s * 16777216 := by
  have e1 : bits .or .i64 (bits .or .i64 (wrap64 (s * 16777216)) (wrap64 (wrap64 (1 - bits .xor .i64 j s) * 8388608))) (wrap64 (wrap64 (1 - bits .xor .i64 k s) * 4194304)) = s * 16777216 + nx j s * 8388608 + nx k s * 4194304 := by
    rcases hs with rfl | rfl <;> rcases hj with rfl | rfl <;> rcases hk with rfl | rfl <;> decide +kernel
  rw [e1, w64 (n := A * 4096) (by omega) (by omega), w64 (n := B * 2) (by omega) (by omega)]
  have n1 := (nx_bit hj hs).1
  have n2 := (nx_bit hk hs).1
  generalize nx j s = u at *
  generalize nx k s = v at *
  have j1 : bits .or .i64 (s * 16777216 + u * 8388608 + v * 4194304) (A * 4096) = s * 16777216 + u * 8388608 + v * 4194304 + A * 4096 := by
    rcases hs with rfl | rfl <;> rcases n1 with rfl | rfl <;> rcases n2 with rfl | rfl <;> exact i64_join 22 (by decide) (by decide) (by decide) (by omega) (by omega) (by omega)
  have j2 : bits .or .i64 (s * 16777216 + u * 8388608 + v * 4194304 + A * 4096) (B * 2) = s * 16777216 + u * 8388608 + v * 4194304 + A * 4096 + B * 2 := by
    rcases hs with rfl | rfl <;> rcases n1 with rfl | rfl <;> rcases n2 with rfl | rfl <;> exact i64_join 12 (by omega) (by omega) (by omega) (by omega) (by omega) (by omega)
  rw [j1, j2]
  unfold sgn25
  rcases hs with rfl | rfl
  · rw [if_neg (by rcases n1 with rfl | rfl <;> rcases n2 with rfl | rfl <;> omega)]; omega
  · rw [if_pos (by rcases n1 with rfl | rfl <;> rcases n2 with rfl | rfl <;> omega), w64 (by rcases n1 with rfl | rfl <;> rcases n2 with rfl | rfl <;> omega) (by rcases n1 with rfl | rfl <;> rcases n2 with rfl | rfl <;> omega)]; omega
theorem refN_eq (a b : Int) : sgn25 (refN a b) = farS a b := by
  unfold refN farS
  rw [i64_m1, i64_m1, i64_m1, i64_m1023, i64_m2047]
  exact refN_join (m2 _) (m2 _) (m2 _) (by omega) (by omega) (by omega) (by omega)
set_option maxHeartbeats 8000000 in
set_option maxRecDepth 100000 in
theorem refDec_bl (g o n c : Nat) (a b : Int) (w : World) (hn : 2 ≤ n) (ca : w.cell? ⟨g, o, none⟩ = some (.int .u16 a)) (cb : w.cell? ⟨g, o + 1, none⟩ = some (.int .u16 b)) (h1 : a / 2048 = 30) (h2 : b / 16384 = 3) (h3 : b / 4096 % 2 = 1) (_ : 0 ≤ a) (_ : a < 65536) (_ : 0 ≤ b) (_ : b < 65536) :
    Calls Try.prog 42 #[.slice (some ⟨g, o, none⟩) n c] w (RefAt ⟨43, 0, 0, 0, farS a b, 0⟩ 2 w) := by
  rw [← refN_eq]
  have ca' : (w.alloc (.cells #[.int .i64 0, .int .i64 0, .int .i64 0, .int .i64 0, .int .i64 0, .int .i64 0] 36)).cell? ⟨g, o, none⟩ = some (.int .u16 a) := cell_new ca
  have cb' : (w.alloc (.cells #[.int .i64 0, .int .i64 0, .int .i64 0, .int .i64 0, .int .i64 0, .int .i64 0] 36)).cell? ⟨g, o + 1, none⟩ = some (.int .u16 b) := cell_new cb
  have hn1 : (0 : Int) < (n : Int) := by omega
  have hn2 : (1 : Int) < (n : Int) := by omega
  have q : bits .and .i64 (b / 4096) 1 = 1 := by rw [i64_m1, h3]
  go_enter Try.func42, Try.ntmps42
  go_wp2_with fail
  refine (sign_25 _ _).mono ?_
  rintro e w' ⟨rfl, rfl⟩
  go_wp2_with fail
  refine bodyPost_ret (v := .tuple #[.agg #[.int .i64 43, .int .i64 0, .int .i64 0, .int .i64 0, .int .i64 (sgn25 (refN a b)), .int .i64 0], .int .i64 2]) (by rw [results_cell_tmp rfl]; go_simp; rfl) rfl ?_
  exact ⟨rfl, (Below.refl _ _).alloc (Nat.le_refl _) _⟩
end Go.Proofs.Ytpihjhfaeloapaa
namespace Go.Proofs.Ytpihjhfaeloapaa
open Go.RowKit On Th
/-- what the document's Decode answers, beside decS -/
theorem refDecode_c {s : Value} {hs : List Int} {w : World} (h : Hw w s hs) : Calls Try.prog 42 #[s] w fun e w' => ∃ i k, RefAt i k w e w' ∧ ((k = 0 ∧ decS hs = (i, 0, 7)) ∨ (k = -1 ∧ decS hs = (i, 0, 8)) ∨ (k = 1 ∧ decS hs = (i, 1, 0)) ∨ (k = 2 ∧ decS hs = (i, 2, 0))) := by
  obtain ⟨A, c, rfl, hk⟩ := h
  cases hs with
  | nil => exact (refDec_nil A c w).mono fun e w' h => ⟨_, _, h, .inl ⟨rfl, rfl⟩⟩
  | cons a t =>
    obtain ⟨ha, ha', g, o, rfl, ca⟩ := hk 0 a rfl
    simp at ca
    by_cases h1 : a / 2048 = 30
    · cases t with
      | nil => exact (refDec_short g o c a w ca h1 ha ha').mono fun e w' h => ⟨_, _, h, .inl ⟨rfl, by unfold decS; dsimp only; rw [if_pos h1]⟩⟩
      | cons b t =>
        obtain ⟨hb, hb', g', o', e, cb⟩ := hk 1 b rfl
        obtain ⟨rfl, rfl⟩ : g = g' ∧ o = o' := by simpa using e
        by_cases h2 : b / 16384 = 3 ∧ b / 4096 % 2 = 1
        · exact (refDec_bl g o _ c a b w (by simp) ca cb h1 h2.1 h2.2 ha ha' hb hb').mono fun e w' h => ⟨_, _, h, .inr (.inr (.inr ⟨rfl, by unfold decS; dsimp only; rw [if_pos h1, if_pos ((and53248 b hb hb').mpr h2)]⟩))⟩
        · exact (refDec_odd g o _ c a b w (by simp) ca cb h1 h2 ha ha' hb hb').mono fun e w' h => ⟨_, _, h, .inr (.inl ⟨rfl, by unfold decS; dsimp only; rw [if_pos h1, if_neg (fun q => h2 ((and53248 b hb hb').mp q))]⟩)⟩
    · rw [decS_row h1]
      have hc := chkH_all a ha ha' h1
      unfold chkH at hc
      dsimp only at hc
      refine (refDec_one g o _ c a w (by simp) ca h1 ha ha').mono ?_
      rintro e w' ⟨k, i, he, hb, hki⟩
      unfold RefOne at hki
      cases hr : rightS (decR1 a) with
      | true =>
        rw [hr, if_pos rfl] at hc hki
        simp only [Prod.mk.injEq] at hki
        obtain ⟨rfl, rfl⟩ := hki
        simp at hc
        exact ⟨_, _, ⟨he, hb⟩, .inr (.inr (.inl ⟨rfl, hc.1⟩))⟩
      | false =>
        rw [hr, if_neg (by simp)] at hc hki
        simp only [Prod.mk.injEq] at hki
        obtain ⟨rfl, rfl⟩ := hki
        simp at hc
        exact ⟨_, _, ⟨he, hb⟩, .inr (.inl ⟨rfl, hc⟩)⟩
end Go.Proofs.Ytpihjhfaeloapaa
