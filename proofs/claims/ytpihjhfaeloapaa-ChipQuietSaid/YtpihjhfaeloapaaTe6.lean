/- ref14.Encode of a Bl. -/
import Derived.Test.YtpihjhfaeloapaaTe0
import Derived.Test.YtpihjhfaeloapaaTe8
import Derived.BigGuardPart
namespace Go.Proofs.Ytpihjhfaeloapaa
open Go.RowKit On Th
theorem u32_wraps (n : Int) (h0 : 0 ≤ n) (h1 : n < 2 ^ 32) : IntKind.u32.wrap n = n := by rw [IntKind.wrap_u32']; omega
theorem u32_join (i : Nat) {x y : Int} (h0 : 0 ≤ x) (h1 : x % 2 ^ i = 0) (h2 : x < 2 ^ 32) (h3 : 0 ≤ y) (h4 : y < 2 ^ i) (h5 : y < 2 ^ 32) : bits .or .u32 x y = x + y := bits_join .u32 32 (by decide) u32_wraps i x y h0 h1 h2 h3 h4 h5
theorem u32_maskP (i : Nat) (hi : i ≤ 32) (x : Int) (h0 : 0 ≤ x) (h1 : x < 2 ^ 32) : bits .and .u32 x (2 ^ i - 1) = x % 2 ^ i := bits_mask .u32 32 (by decide) u32_wraps i hi x h0 h1
theorem u32_m1 {x : Int} (h0 : 0 ≤ x) (h1 : x < 4294967296) : bits .and .u32 x 1 = x % 2 := u32_maskP 1 (by decide) x h0 h1
theorem u32_m1023 {x : Int} (h0 : 0 ≤ x) (h1 : x < 4294967296) : bits .and .u32 x 1023 = x % 1024 := u32_maskP 10 (by decide) x h0 h1
theorem u32_m2047 {x : Int} (h0 : 0 ≤ x) (h1 : x < 4294967296) : bits .and .u32 x 2047 = x % 2048 := u32_maskP 11 (by decide) x h0 h1
theorem refA {s x : Int} (hs : s = 0 ∨ s = 1) (hx : 0 ≤ x) (hx' : x < 1024) : IntKind.u16.wrap (bits .or .u32 (bits .or .u32 61440 (s * 1024 % 4294967296)) x) = 61440 + s * 1024 + x := by
  have e1 : bits .or .u32 61440 (s * 1024 % 4294967296) = 61440 + s * 1024 := by rcases hs with rfl | rfl <;> decide +kernel
  rw [e1]
  have j : bits .or .u32 (61440 + s * 1024) x = 61440 + s * 1024 + x := by
    rcases hs with rfl | rfl <;> exact u32_join 10 (by decide) (by decide) (by decide) hx (by omega) (by omega)
  rw [j, IntKind.wrap_u16]
  omega
theorem refB {s j k y : Int} (hs : s = 0 ∨ s = 1) (hj : j = 0 ∨ j = 1) (hk : k = 0 ∨ k = 1) (hy : 0 ≤ y) (hy' : y < 2048) :
    IntKind.u16.wrap (bits .or .u32 (bits .or .u32 (bits .or .u32 53248 ((1 - bits .xor .u32 j s) % 4294967296 * 8192 % 4294967296)) ((1 - bits .xor .u32 k s) % 4294967296 * 2048 % 4294967296)) y) = 53248 + nx j s * 8192 + nx k s * 2048 + y := by
  have e1 : bits .or .u32 (bits .or .u32 53248 ((1 - bits .xor .u32 j s) % 4294967296 * 8192 % 4294967296)) ((1 - bits .xor .u32 k s) % 4294967296 * 2048 % 4294967296) = 53248 + nx j s * 8192 + nx k s * 2048 := by
    rcases hs with rfl | rfl <;> rcases hj with rfl | rfl <;> rcases hk with rfl | rfl <;> decide +kernel
  rw [e1]
  have n1 := (nx_bit hj hs).1
  have n2 := (nx_bit hk hs).1
  generalize nx j s = u at *
  generalize nx k s = v at *
  have j : bits .or .u32 (53248 + u * 8192 + v * 2048) y = 53248 + u * 8192 + v * 2048 + y := by
    rcases n1 with rfl | rfl <;> rcases n2 with rfl | rfl <;> exact u32_join 11 (by decide) (by decide) (by decide) hy (by omega) (by omega)
  rw [j, IntKind.wrap_u16]
  omega
theorem refBl (imm : Int) (h0 : -16777216 ≤ imm) (h1 : imm ≤ 16777214) (h2 : imm % 2 = 0) :
    IntKind.u16.wrap (bits .or .u32 (bits .or .u32 61440 (bits .and .u32 (wrap32 imm % 4294967296 / 16777216) 1 * 1024 % 4294967296)) (bits .and .u32 (wrap32 imm % 4294967296 / 4096) 1023)) = longA imm ∧
    IntKind.u16.wrap (bits .or .u32 (bits .or .u32 (bits .or .u32 53248 ((1 - bits .xor .u32 (bits .and .u32 (wrap32 imm % 4294967296 / 8388608) 1) (bits .and .u32 (wrap32 imm % 4294967296 / 16777216) 1)) % 4294967296 * 8192 % 4294967296)) ((1 - bits .xor .u32 (bits .and .u32 (wrap32 imm % 4294967296 / 4194304) 1) (bits .and .u32 (wrap32 imm % 4294967296 / 16777216) 1)) % 4294967296 * 2048 % 4294967296)) (bits .and .u32 (wrap32 imm % 4294967296 / 2) 2047)) = longB imm := by
  obtain ⟨s, j, k, x, y, hs, hj, hk, hx, hx', hy, hy', hn⟩ := parts_of imm h0 h1 h2
  obtain ⟨l1, l2⟩ := long_mk hs hj hk hx hx' hy hy' hn
  have hu : wrap32 imm % 4294967296 = imm + s * 4294967296 := by
    unfold wrap32
    rcases hs with rfl | rfl
    · have : 0 ≤ imm := by rcases hj with rfl | rfl <;> rcases hk with rfl | rfl <;> omega
      omega
    · have : imm < 0 := by rcases hj with rfl | rfl <;> rcases hk with rfl | rfl <;> omega
      omega
  have e1 : (imm + s * 4294967296) / 16777216 % 2 = s := by rcases hs with rfl | rfl <;> rcases hj with rfl | rfl <;> rcases hk with rfl | rfl <;> omega
  have e2 : (imm + s * 4294967296) / 4096 % 1024 = x := by rcases hs with rfl | rfl <;> rcases hj with rfl | rfl <;> rcases hk with rfl | rfl <;> omega
  have e3 : (imm + s * 4294967296) / 8388608 % 2 = j := by rcases hs with rfl | rfl <;> rcases hj with rfl | rfl <;> rcases hk with rfl | rfl <;> omega
  have e4 : (imm + s * 4294967296) / 4194304 % 2 = k := by rcases hs with rfl | rfl <;> rcases hj with rfl | rfl <;> rcases hk with rfl | rfl <;> omega
  have e5 : (imm + s * 4294967296) / 2 % 2048 = y := by rcases hs with rfl | rfl <;> rcases hj with rfl | rfl <;> rcases hk with rfl | rfl <;> omega
  have r0 : 0 ≤ imm + s * 4294967296 := by rw [← hu]; omega
  have r1 : imm + s * 4294967296 < 4294967296 := by rw [← hu]; omega
  rw [hu]
  generalize imm + s * 4294967296 = u at *
  rw [u32_m1 (x := u / 16777216) (by omega) (by omega), u32_m1023 (x := u / 4096) (by omega) (by omega), u32_m1 (x := u / 8388608) (by omega) (by omega), u32_m1 (x := u / 4194304) (by omega) (by omega), u32_m2047 (x := u / 2) (by omega) (by omega), e1, e2, e3, e4, e5, l1, l2]
  exact ⟨refA hs hx hx', refB hs hj hk hy hy'⟩
set_option maxHeartbeats 4000000 in
set_option maxRecDepth 100000 in
theorem refEnc_43 (d n m imm cond : Int) (w : World) (hr : rightS ⟨43, d, n, m, imm, cond⟩ = true) : Calls Try.prog 16 #[.agg #[.int .i64 43, .int .i64 d, .int .i64 n, .int .i64 m, .int .i64 imm, .int .i64 cond]] w fun e w' => ∃ g, e = .returned (.slice (some ⟨g, 0, none⟩) 2 2) ∧ Blk w' g 79 #[.int .u16 (longA imm), .int .u16 (longB imm)] ∧ Below w.heap.size w w' := by
  obtain ⟨_, _, _, _, h0, h1, h2⟩ := right43_iff hr
  obtain ⟨k1, k2⟩ := refBl imm h0 h1 h2
  rw [← k1, ← k2]
  clear k1 k2 h0 h1 h2 hr
  go_enter Try.func16, Try.ntmps16
  go_wp2_with fail
  go_ret
  exact ⟨_, rfl, Blk.new' _ _ _ _ (by simp only [World.size_alloc]), ((Below.refl _ _).alloc (Nat.le_refl _) _).alloc (by simp) _⟩
set_option maxHeartbeats 4000000 in
set_option maxRecDepth 100000 in
theorem refEnc_28 (d n m imm cond : Int) (w : World) : Calls Try.prog 16 #[.agg #[.int .i64 28, .int .i64 d, .int .i64 n, .int .i64 m, .int .i64 imm, .int .i64 cond]] w (RefEnc ⟨28, d, n, m, imm, cond⟩ w) := by
  go_enter Try.func16, Try.ntmps16
  go_wp2_with (first | (go_at_call 31; refine (one_c _ _).mono ?_; rintro e w' ⟨rfl, rfl⟩))
  go_ret
  refine ⟨_, ⟨_, rfl, Blk.new' _ _ _ _ (by simp only [World.size_alloc]), ((Below.refl _ _).alloc (Nat.le_refl _) _).alloc (by simp) _⟩, fun hr => ?_⟩
  obtain ⟨rfl, rfl, rfl, r1, r2, r3, r4⟩ := right28_iff hr
  have e : encL ⟨28, d, 0, m, 0, 0⟩ = [enc28 d m] := by unfold encL; rw [if_pos rfl]
  rw [e]
  have hd2 : d = 0 ∨ d = 1 ∨ d = 2 ∨ d = 3 ∨ d = 4 ∨ d = 5 ∨ d = 6 ∨ d = 7 ∨ d = 8 ∨ d = 9 ∨ d = 10 ∨ d = 11 ∨ d = 12 ∨ d = 13 ∨ d = 14 := by omega
  have hm2 : m = 0 ∨ m = 1 ∨ m = 2 ∨ m = 3 ∨ m = 4 ∨ m = 5 ∨ m = 6 ∨ m = 7 ∨ m = 8 ∨ m = 9 ∨ m = 10 ∨ m = 11 ∨ m = 12 ∨ m = 13 ∨ m = 14 := by omega
  have all : ∀ d ∈ ([0, 1, 2, 3, 4, 5, 6, 7, 8, 9, 10, 11, 12, 13, 14] : List Int), ∀ m ∈ ([0, 1, 2, 3, 4, 5, 6, 7, 8, 9, 10, 11, 12, 13, 14] : List Int), enc28 d m = bits .or .u16 (bits .or .u16 (bits .or .u16 17920 (IntKind.u16.wrap (IntKind.u16.wrap d / 8 * 128))) (IntKind.u16.wrap (IntKind.u16.wrap m * 8))) ((IntKind.u16.wrap d).tmod 8) := by decide +kernel
  rw [all d (by simpa using hd2) m (by simpa using hm2)]
end Go.Proofs.Ytpihjhfaeloapaa
