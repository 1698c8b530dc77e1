/- ref14.Decode: of no halfwords, of a Bl. -/
import Derived.Test.YtpcjkllhieiiiaaThL
import Derived.Test.YtpcjkllhieiiiaaTh10
import Derived.BigGuardPart
namespace Go.Proofs.Ytpcjkllhieiiiaa
open Go.RowKit On Th
/-- what the document's Decode answers -/
def RefAt (i : Ins) (k : Int) (w : World) (e : Ending) (w' : World) : Prop :=
  e = .returned (.tuple #[.agg #[.int .i64 i.op, .int .i64 i.d, .int .i64 i.n, .int .i64 i.m, .int .i64 i.imm, .int .i64 i.cond], .int .i64 k]) ∧ Below w.heap.size w w'
set_option maxHeartbeats 8000000 in
set_option maxRecDepth 100000 in
theorem refDec_nil (A : Option Addr) (c : Nat) (w : World) : Calls Try.prog 18 #[.slice A 0 c] w (RefAt ⟨0, 0, 0, 0, 0, 0⟩ 0 w) := by
  go_enter Try.func18, Try.ntmps18
  go_wp2_with fail
  refine bodyPost_ret (v := .tuple #[.agg #[.int .i64 0, .int .i64 0, .int .i64 0, .int .i64 0, .int .i64 0, .int .i64 0], .int .i64 0]) (by rw [results_cell_tmp rfl]; go_simp) rfl ?_
  exact ⟨rfl, (Below.refl _ _).alloc (Nat.le_refl _) _⟩
set_option maxHeartbeats 8000000 in
set_option maxRecDepth 100000 in
theorem refDec_short (g o c : Nat) (a : Int) (w : World) (ca : w.cell? ⟨g, o, none⟩ = some (.int .u16 a)) (h1 : a / 2048 = 30) (_ : 0 ≤ a) (_ : a < 65536) :
    Calls Try.prog 18 #[.slice (some ⟨g, o, none⟩) 1 c] w (RefAt ⟨0, 0, 0, 0, 0, 0⟩ 0 w) := by
  have ca' : (w.alloc (.cells #[.int .i64 0, .int .i64 0, .int .i64 0, .int .i64 0, .int .i64 0, .int .i64 0] 24)).cell? ⟨g, o, none⟩ = some (.int .u16 a) := cell_new ca
  go_enter Try.func18, Try.ntmps18
  go_wp2_with fail
  refine bodyPost_ret (v := .tuple #[.agg #[.int .i64 0, .int .i64 0, .int .i64 0, .int .i64 0, .int .i64 0, .int .i64 0], .int .i64 0]) (by rw [results_cell_tmp rfl]; go_simp) rfl ?_
  exact ⟨rfl, (Below.refl _ _).alloc (Nat.le_refl _) _⟩
set_option maxHeartbeats 8000000 in
set_option maxRecDepth 100000 in
theorem refDec_odd (g o n c : Nat) (a b : Int) (w : World) (hn : 2 ≤ n) (ca : w.cell? ⟨g, o, none⟩ = some (.int .u16 a)) (cb : w.cell? ⟨g, o + 1, none⟩ = some (.int .u16 b)) (h1 : a / 2048 = 30) (h2 : ¬ (b / 16384 = 3 ∧ b / 4096 % 2 = 1)) (_ : 0 ≤ a) (_ : a < 65536) (hb : 0 ≤ b) (hb' : b < 65536) :
    Calls Try.prog 18 #[.slice (some ⟨g, o, none⟩) n c] w (RefAt ⟨0, 0, 0, 0, 0, 0⟩ (-1) w) := by
  have ca' : (w.alloc (.cells #[.int .i64 0, .int .i64 0, .int .i64 0, .int .i64 0, .int .i64 0, .int .i64 0] 24)).cell? ⟨g, o, none⟩ = some (.int .u16 a) := cell_new ca
  have cb' : (w.alloc (.cells #[.int .i64 0, .int .i64 0, .int .i64 0, .int .i64 0, .int .i64 0, .int .i64 0] 24)).cell? ⟨g, o + 1, none⟩ = some (.int .u16 b) := cell_new cb
  have hn1 : (0 : Int) < (n : Int) := by omega
  have hn2 : (1 : Int) < (n : Int) := by omega
  have q : bits .and .i64 (b / 4096) 1 = b / 4096 % 2 := i64_m1 _
  rcases (show b / 16384 ≠ 3 ∨ (b / 16384 = 3 ∧ b / 4096 % 2 = 0) by omega) with h3 | ⟨h3, h4⟩
  · have h3' : (b / 16384 == 3) = false := by simpa using h3
    have h3'' : (b / 16384 != 3) = true := by simp [bne, h3']
    clear h3 h2
    go_enter Try.func18, Try.ntmps18
    go_wp2_with fail
    refine bodyPost_ret (v := .tuple #[.agg #[.int .i64 0, .int .i64 0, .int .i64 0, .int .i64 0, .int .i64 0, .int .i64 0], .int .i64 (-1)]) (by rw [results_cell_tmp rfl]; go_simp) rfl ?_
    exact ⟨rfl, (Below.refl _ _).alloc (Nat.le_refl _) _⟩
  · rw [h4] at q
    clear h2 h4
    go_enter Try.func18, Try.ntmps18
    go_wp2_with fail
    refine bodyPost_ret (v := .tuple #[.agg #[.int .i64 0, .int .i64 0, .int .i64 0, .int .i64 0, .int .i64 0, .int .i64 0], .int .i64 (-1)]) (by rw [results_cell_tmp rfl]; go_simp) rfl ?_
    exact ⟨rfl, (Below.refl _ _).alloc (Nat.le_refl _) _⟩
def sgn25 (n : Int) : Int := if 16777216 ≤ n then wrap64 (n - 33554432) else n
set_option maxHeartbeats 1000000 in
theorem sign_25 (n : Int) (w : World) : Calls Try.prog 33 #[.int .i64 n, .int .i64 25] w fun e w' => e = .returned (.int .i64 (sgn25 n)) ∧ w = w' := by
  have hs : Hid (sgn25 n = if 16777216 ≤ n then wrap64 (n - 33554432) else n) := rfl
  by_cases h : 16777216 ≤ n
  · rw [hs.out, if_pos h]; clear hs
    go_enter Try.func33, Try.ntmps33
    go_wp2_with fail
    go_ret
    exact ⟨rfl, rfl⟩
  · rw [hs.out, if_neg h]; clear hs
    go_enter Try.func33, Try.ntmps33
    go_wp2_with fail
    go_ret
    exact ⟨rfl, rfl⟩
def refN (a b : Int) : Int :=
  bits .or .i64 (bits .or .i64 (bits .or .i64 (bits .or .i64 (wrap64 (bits .and .i64 (a / 1024) 1 * 16777216)) (wrap64 (wrap64 (1 - bits .xor .i64 (bits .and .i64 (b / 8192) 1) (bits .and .i64 (a / 1024) 1)) * 8388608))) (wrap64 (wrap64 (1 - bits .xor .i64 (bits .and .i64 (b / 2048) 1) (bits .and .i64 (a / 1024) 1)) * 4194304))) (wrap64 (bits .and .i64 a 1023 * 4096))) (wrap64 (bits .and .i64 b 2047 * 2))
theorem refN_join {s j k A B : Int} (hs : s = 0 ∨ s = 1) (hj : j = 0 ∨ j = 1) (hk : k = 0 ∨ k = 1) (hA : 0 ≤ A) (hA' : A < 1024) (hB : 0 ≤ B) (hB' : B < 2048) :
    sgn25 (bits .or .i64 (bits .or .i64 (bits .or .i64 (bits .or .i64 (wrap64 (s * 16777216)) (wrap64 (wrap64 (1 - bits .xor .i64 j s) * 8388608))) (wrap64 (wrap64 (1 - bits .xor .i64 k s) * 4194304))) (wrap64 (A * 4096))) (wrap64 (B * 2))) = nx j s * 8388608 + nx k s * 4194304 + A * 4096 + B * 2 - s * 16777216 := by
  have e1 : bits .or .i64 (bits .or .i64 (wrap64 (s * 16777216)) (wrap64 (wrap64 (1 - bits .xor .i64 j s) * 8388608))) (wrap64 (wrap64 (1 - bits .xor .i64 k s) * 4194304)) = s * 16777216 + nx j s * 8388608 + nx k s * 4194304 := by
    rcases hs with rfl | rfl <;> rcases hj with rfl | rfl <;> rcases hk with rfl | rfl <;> decide +kernel
  rw [e1, w64 (n := A * 4096) (by omega) (by omega), w64 (n := B * 2) (by omega) (by omega)]
  have n1 := (nx_bit hj hs).1
  have n2 := (nx_bit hk hs).1
  generalize nx j s = u at *
  generalize nx k s = v at *
  have j1 : bits .or .i64 (s * 16777216 + u * 8388608 + v * 4194304) (A * 4096) = s * 16777216 + u * 8388608 + v * 4194304 + A * 4096 := by
    rcases hs with rfl | rfl <;> rcases n1 with rfl | rfl <;> rcases n2 with rfl | rfl <;> exact i64_join 22 (by decide) (by decide) (by decide) (by omega) (by omega) (by omega)
  have j2 : bits .or .i64 (s * 16777216 + u * 8388608 + v * 4194304 + A * 4096) (B * 2) = s * 16777216 + u * 8388608 + v * 4194304 + A * 4096 + B * 2 := by
    rcases hs with rfl | rfl <;> rcases n1 with rfl | rfl <;> rcases n2 with rfl | rfl <;> exact i64_join 12 (by omega) (by omega) (by omega) (by omega) (by omega) (by omega)
  rw [j1, j2]
  unfold sgn25
  rcases hs with rfl | rfl
  · rw [if_neg (by rcases n1 with rfl | rfl <;> rcases n2 with rfl | rfl <;> omega)]; omega
  · rw [if_pos (by rcases n1 with rfl | rfl <;> rcases n2 with rfl | rfl <;> omega), w64 (by rcases n1 with rfl | rfl <;> rcases n2 with rfl | rfl <;> omega) (by rcases n1 with rfl | rfl <;> rcases n2 with rfl | rfl <;> omega)]; omega
theorem refN_eq (a b : Int) : sgn25 (refN a b) = farS a b := by
  unfold refN farS
  rw [i64_m1, i64_m1, i64_m1, i64_m1023, i64_m2047]
  exact refN_join (m2 _) (m2 _) (m2 _) (by omega) (by omega) (by omega) (by omega)
set_option maxHeartbeats 8000000 in
set_option maxRecDepth 100000 in
theorem refDec_bl (g o n c : Nat) (a b : Int) (w : World) (hn : 2 ≤ n) (ca : w.cell? ⟨g, o, none⟩ = some (.int .u16 a)) (cb : w.cell? ⟨g, o + 1, none⟩ = some (.int .u16 b)) (h1 : a / 2048 = 30) (h2 : b / 16384 = 3) (h3 : b / 4096 % 2 = 1) (_ : 0 ≤ a) (_ : a < 65536) (_ : 0 ≤ b) (_ : b < 65536) :
    Calls Try.prog 18 #[.slice (some ⟨g, o, none⟩) n c] w (RefAt ⟨43, 0, 0, 0, farS a b, 0⟩ 2 w) := by
  rw [← refN_eq]
  have ca' : (w.alloc (.cells #[.int .i64 0, .int .i64 0, .int .i64 0, .int .i64 0, .int .i64 0, .int .i64 0] 24)).cell? ⟨g, o, none⟩ = some (.int .u16 a) := cell_new ca
  have cb' : (w.alloc (.cells #[.int .i64 0, .int .i64 0, .int .i64 0, .int .i64 0, .int .i64 0, .int .i64 0] 24)).cell? ⟨g, o + 1, none⟩ = some (.int .u16 b) := cell_new cb
  have hn1 : (0 : Int) < (n : Int) := by omega
  have hn2 : (1 : Int) < (n : Int) := by omega
  have q : bits .and .i64 (b / 4096) 1 = 1 := by rw [i64_m1, h3]
  go_enter Try.func18, Try.ntmps18
  go_wp2_with fail
  refine (sign_25 _ _).mono ?_
  rintro e w' ⟨rfl, rfl⟩
  go_wp2_with fail
  refine bodyPost_ret (v := .tuple #[.agg #[.int .i64 43, .int .i64 0, .int .i64 0, .int .i64 0, .int .i64 (sgn25 (refN a b)), .int .i64 0], .int .i64 2]) (by rw [results_cell_tmp rfl]; go_simp; rfl) rfl ?_
  exact ⟨rfl, (Below.refl _ _).alloc (Nat.le_refl _) _⟩
end Go.Proofs.Ytpcjkllhieiiiaa
