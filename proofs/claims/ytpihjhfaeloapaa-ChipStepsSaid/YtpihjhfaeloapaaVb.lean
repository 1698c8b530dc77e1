/- MERGED by mergev.py: XTh5 XTh7 XTh9. -/
import Derived.Test.YtpihjhfaeloapaaVa
import Derived.Laws.BitsAllLaws
namespace Go.Proofs.Th
open Go.RowKit Go.Proofs.On
def farX (a b by_ : Int) : Int := wrap64 (1 - bits .xor .i64 (wrap64 (bits .and .u16 (b / by_) 1)) (wrap64 (bits .and .u16 (a / 1024) 1)))
def farE (a b : Int) : Int := wrap64 (bits .or .i64 (bits .or .i64 (bits .or .i64 (wrap64 (farX a b 8192 * 8388608)) (wrap64 (farX a b 2048 * 4194304))) (wrap64 (wrap64 (bits .and .u16 a 1023) * 4096))) (wrap64 (wrap64 (bits .and .u16 b 2047) * 2)) - wrap64 (wrap64 (bits .and .u16 (a / 1024) 1) * 16777216))
theorem i64_wraps (n : Int) (h0 : 0 ≤ n) (h1 : n < 2 ^ 63) : IntKind.i64.wrap n = n := by rw [IntKind.wrap_i64]; omega
theorem u16_wraps (n : Int) (h0 : 0 ≤ n) (h1 : n < 2 ^ 16) : IntKind.u16.wrap n = n := by rw [IntKind.wrap_u16]; omega
theorem i64_join (i : Nat) {x y : Int} (h0 : 0 ≤ x) (h1 : x % 2 ^ i = 0) (h2 : x < 2 ^ 63) (h3 : 0 ≤ y) (h4 : y < 2 ^ i) (h5 : y < 2 ^ 63) : bits .or .i64 x y = x + y := bits_join .i64 63 (by decide) i64_wraps i x y h0 h1 h2 h3 h4 h5
theorem u16_join (i : Nat) {x y : Int} (h0 : 0 ≤ x) (h1 : x % 2 ^ i = 0) (h2 : x < 2 ^ 16) (h3 : 0 ≤ y) (h4 : y < 2 ^ i) (h5 : y < 2 ^ 16) : bits .or .u16 x y = x + y := bits_join .u16 16 (by decide) u16_wraps i x y h0 h1 h2 h3 h4 h5
theorem u16_maskP (i : Nat) (hi : i ≤ 16) (x : Int) (h0 : 0 ≤ x) (h1 : x < 2 ^ 16) : bits .and .u16 x (2 ^ i - 1) = x % 2 ^ i := bits_mask .u16 16 (by decide) u16_wraps i hi x h0 h1
theorem i64_mask (i : Nat) (hi : i ≤ 62) (x : Int) : bits .and .i64 x (2 ^ i - 1) = x % 2 ^ i := by
  have hpos : 0 < 2 ^ i := Nat.two_pow_pos i
  have hlt : 2 ^ i < 2 ^ 63 := Nat.pow_lt_pow_right (by decide) (by omega)
  have hc : ((2 : Int) ^ i - 1) = ((2 ^ i - 1 : Nat) : Int) := by rw [Int.natCast_sub hpos]; simp
  have hd : ((2 ^ i : Nat) : Int) ∣ ((2 ^ 64 : Nat) : Int) := Int.ofNat_dvd.mpr (Nat.pow_dvd_pow 2 (by omega))
  show IntKind.i64.wrap ((BitVec.ofInt 64 x &&& BitVec.ofInt 64 (2 ^ i - 1)).toNat : Int) = _
  rw [hc, BitVec.toNat_and, BitVec.ofInt_natCast, BitVec.toNat_ofNat, Nat.mod_eq_of_lt (show 2 ^ i - 1 < 2 ^ 64 by omega), Nat.and_two_pow_sub_one_eq_mod, BitVec.toNat_ofInt]
  have e : (((x % ((2 ^ 64 : Nat) : Int)).toNat % 2 ^ i : Nat) : Int) = x % 2 ^ i := by
    rw [Int.natCast_emod, Int.toNat_of_nonneg (Int.emod_nonneg _ (by decide)), Int.emod_emod_of_dvd _ hd]; simp
  rw [e]
  have h1 : 0 ≤ x % 2 ^ i := Int.emod_nonneg _ (by have : (0 : Int) < 2 ^ i := by exact_mod_cast hpos
                                                   omega)
  have h2 : x % 2 ^ i < 2 ^ i := Int.emod_lt_of_pos _ (by exact_mod_cast hpos)
  have h3 : (2 : Int) ^ i < 2 ^ 63 := by exact_mod_cast hlt
  exact i64_wraps _ h1 (by omega)
theorem i64_xor2 {x y : Int} (hx : x = 0 ∨ x = 1) (hy : y = 0 ∨ y = 1) : bits .xor .i64 x y = (x + y) % 2 := by
  rcases hx with rfl | rfl <;> rcases hy with rfl | rfl <;> decide +kernel
theorem w64 {n : Int} (h0 : -9223372036854775808 ≤ n) (h1 : n < 9223372036854775808) : wrap64 n = n := by unfold wrap64; omega
/-- one less a sum of two bits -/
def nx (x y : Int) : Int := 1 - (x + y) % 2
def farS (a b : Int) : Int := nx (b / 8192 % 2) (a / 1024 % 2) * 8388608 + nx (b / 2048 % 2) (a / 1024 % 2) * 4194304 + a % 1024 * 4096 + b % 2048 * 2 - a / 1024 % 2 * 16777216
theorem nx_bit {x y : Int} (hx : x = 0 ∨ x = 1) (hy : y = 0 ∨ y = 1) : (nx x y = 0 ∨ nx x y = 1) ∧ nx (nx x y) y = x := by
  rcases hx with rfl | rfl <;> rcases hy with rfl | rfl <;> decide +kernel
theorem m2 (x : Int) : x % 2 = 0 ∨ x % 2 = 1 := by omega
theorem u16_m1 {x : Int} (h0 : 0 ≤ x) (h1 : x < 65536) : bits .and .u16 x 1 = x % 2 := u16_maskP 1 (by decide) x h0 h1
theorem u16_m7 {x : Int} (h0 : 0 ≤ x) (h1 : x < 65536) : bits .and .u16 x 7 = x % 8 := u16_maskP 3 (by decide) x h0 h1
theorem u16_m15 {x : Int} (h0 : 0 ≤ x) (h1 : x < 65536) : bits .and .u16 x 15 = x % 16 := u16_maskP 4 (by decide) x h0 h1
theorem u16_m1023 {x : Int} (h0 : 0 ≤ x) (h1 : x < 65536) : bits .and .u16 x 1023 = x % 1024 := u16_maskP 10 (by decide) x h0 h1
theorem u16_m2047 {x : Int} (h0 : 0 ≤ x) (h1 : x < 65536) : bits .and .u16 x 2047 = x % 2048 := u16_maskP 11 (by decide) x h0 h1
theorem i64_m1 (x : Int) : bits .and .i64 x 1 = x % 2 := i64_mask 1 (by decide) x
theorem i64_m7 (x : Int) : bits .and .i64 x 7 = x % 8 := i64_mask 3 (by decide) x
theorem i64_m1023 (x : Int) : bits .and .i64 x 1023 = x % 1024 := i64_mask 10 (by decide) x
theorem i64_m2047 (x : Int) : bits .and .i64 x 2047 = x % 2048 := i64_mask 11 (by decide) x
theorem farX_eq (a b : Int) (k : Int) (ha : 0 ≤ a) (ha' : a < 65536) (hb : 0 ≤ b / k) (hb' : b / k < 65536) : farX a b k = nx (b / k % 2) (a / 1024 % 2) := by
  unfold farX
  rw [u16_m1 hb hb', u16_m1 (x := a / 1024) (by omega) (by omega)]
  have h1 := m2 (b / k)
  have h2 := m2 (a / 1024)
  generalize b / k % 2 = x at *
  generalize a / 1024 % 2 = y at *
  have e1 : wrap64 x = x := w64 (by omega) (by omega)
  have e2 : wrap64 y = y := w64 (by omega) (by omega)
  rw [e1, e2, i64_xor2 h1 h2]
  rcases h1 with rfl | rfl <;> rcases h2 with rfl | rfl <;> decide +kernel
theorem farJoin {x y A B s : Int} (hx : x = 0 ∨ x = 1) (hy : y = 0 ∨ y = 1) (hA : 0 ≤ A) (hA' : A < 1024) (hB : 0 ≤ B) (hB' : B < 2048) (hs : s = 0 ∨ s = 1) :
    wrap64 (bits .or .i64 (bits .or .i64 (bits .or .i64 (wrap64 (x * 8388608)) (wrap64 (y * 4194304))) (wrap64 (wrap64 A * 4096))) (wrap64 (wrap64 B * 2)) - wrap64 (wrap64 s * 16777216)) = x * 8388608 + y * 4194304 + A * 4096 + B * 2 - s * 16777216 := by
  have e1 : wrap64 (x * 8388608) = x * 8388608 := w64 (by omega) (by omega)
  have e2 : wrap64 (y * 4194304) = y * 4194304 := w64 (by omega) (by omega)
  have e3 : wrap64 A = A := w64 (by omega) (by omega)
  have e4 : wrap64 B = B := w64 (by omega) (by omega)
  have e5 : wrap64 s = s := w64 (by omega) (by omega)
  have e6 : wrap64 (A * 4096) = A * 4096 := w64 (by omega) (by omega)
  have e7 : wrap64 (B * 2) = B * 2 := w64 (by omega) (by omega)
  have e8 : wrap64 (s * 16777216) = s * 16777216 := w64 (by omega) (by omega)
  have j1 : bits .or .i64 (x * 8388608) (y * 4194304) = x * 8388608 + y * 4194304 := by rcases hx with rfl | rfl <;> rcases hy with rfl | rfl <;> decide +kernel
  have j2 : bits .or .i64 (x * 8388608 + y * 4194304) (A * 4096) = x * 8388608 + y * 4194304 + A * 4096 := by
    rcases hx with rfl | rfl <;> rcases hy with rfl | rfl <;> exact i64_join 22 (by decide) (by decide) (by decide) (by omega) (by omega) (by omega)
  have j3 : bits .or .i64 (x * 8388608 + y * 4194304 + A * 4096) (B * 2) = x * 8388608 + y * 4194304 + A * 4096 + B * 2 := by
    rcases hx with rfl | rfl <;> rcases hy with rfl | rfl <;> exact i64_join 12 (by omega) (by omega) (by omega) (by omega) (by omega) (by omega)
  rw [e3, e4, e5, e1, e2, e6, e7, e8, j1, j2, j3]
  exact w64 (by omega) (by omega)
theorem farE_eq (a b : Int) (ha : 0 ≤ a) (ha' : a < 65536) (hb : 0 ≤ b) (hb' : b < 65536) : farE a b = farS a b := by
  unfold farE farS
  rw [farX_eq a b 8192 ha ha' (by omega) (by omega), farX_eq a b 2048 ha ha' (by omega) (by omega), u16_m1023 ha ha', u16_m2047 hb hb', u16_m1 (x := a / 1024) (by omega) (by omega)]
  exact farJoin (nx_bit (m2 _) (m2 _)).1 (nx_bit (m2 _) (m2 _)).1 (by omega) (by omega) (by omega) (by omega) (m2 _)
theorem longS_or (imm : Int) : longS imm = 0 ∨ longS imm = 1 := by unfold longS; by_cases h : imm < 0 <;> simp [h]
theorem longA_eq (imm : Int) : longA imm = 61440 + longS imm * 1024 + imm / 4096 % 1024 := by
  unfold longA
  rw [i64_m1023]
  have hs := longS_or imm
  have h0 : 0 ≤ imm / 4096 % 1024 := by omega
  have h1 : imm / 4096 % 1024 < 1024 := by omega
  generalize imm / 4096 % 1024 = x at *
  generalize longS imm = s at *
  have e1 : bits .or .i64 61440 (wrap64 (s * 1024)) = 61440 + s * 1024 := by rcases hs with rfl | rfl <;> decide +kernel
  rw [e1]
  have j : bits .or .i64 (61440 + s * 1024) x = 61440 + s * 1024 + x := by
    rcases hs with rfl | rfl <;> exact i64_join 10 (by decide) (by decide) (by decide) h0 (by omega) (by omega)
  rw [j, IntKind.wrap_u16]
  omega
theorem longJ_eq (imm k : Int) : longJ imm k = nx (imm / k % 2) (longS imm) := by
  unfold longJ
  rw [i64_m1]
  have h1 := m2 (imm / k)
  have hs := longS_or imm
  generalize imm / k % 2 = x at *
  generalize longS imm = s at *
  rw [i64_xor2 h1 hs]
  rcases h1 with rfl | rfl <;> rcases hs with rfl | rfl <;> decide +kernel
theorem longB_eq (imm : Int) : longB imm = 53248 + nx (imm / 8388608 % 2) (longS imm) * 8192 + nx (imm / 4194304 % 2) (longS imm) * 2048 + imm / 2 % 2048 := by
  unfold longB
  rw [longJ_eq, longJ_eq, i64_m2047]
  have n1 := (nx_bit (m2 (imm / 8388608)) (longS_or imm)).1
  have n2 := (nx_bit (m2 (imm / 4194304)) (longS_or imm)).1
  have h0 : 0 ≤ imm / 2 % 2048 := by omega
  have h1 : imm / 2 % 2048 < 2048 := by omega
  generalize nx (imm / 8388608 % 2) (longS imm) = x at *
  generalize nx (imm / 4194304 % 2) (longS imm) = y at *
  generalize imm / 2 % 2048 = z at *
  have e1 : bits .or .i64 (bits .or .i64 53248 (wrap64 (x * 8192))) (wrap64 (y * 2048)) = 53248 + x * 8192 + y * 2048 := by rcases n1 with rfl | rfl <;> rcases n2 with rfl | rfl <;> decide +kernel
  rw [e1]
  have j : bits .or .i64 (53248 + x * 8192 + y * 2048) z = 53248 + x * 8192 + y * 2048 + z := by
    rcases n1 with rfl | rfl <;> rcases n2 with rfl | rfl <;> exact i64_join 11 (by decide) (by decide) (by decide) h0 (by omega) (by omega)
  rw [j, IntKind.wrap_u16]
  omega
theorem enc28_eq (d m : Int) (hd : 0 ≤ d) (hd' : d < 16) (hm : 0 ≤ m) (hm' : m < 16) : enc28 d m = 17920 + d / 8 * 128 + m * 8 + d % 8 := by
  have hd2 : d = 0 ∨ d = 1 ∨ d = 2 ∨ d = 3 ∨ d = 4 ∨ d = 5 ∨ d = 6 ∨ d = 7 ∨ d = 8 ∨ d = 9 ∨ d = 10 ∨ d = 11 ∨ d = 12 ∨ d = 13 ∨ d = 14 ∨ d = 15 := by omega
  have hm2 : m = 0 ∨ m = 1 ∨ m = 2 ∨ m = 3 ∨ m = 4 ∨ m = 5 ∨ m = 6 ∨ m = 7 ∨ m = 8 ∨ m = 9 ∨ m = 10 ∨ m = 11 ∨ m = 12 ∨ m = 13 ∨ m = 14 ∨ m = 15 := by omega
  have all : ∀ d ∈ ([0, 1, 2, 3, 4, 5, 6, 7, 8, 9, 10, 11, 12, 13, 14, 15] : List Int), ∀ m ∈ ([0, 1, 2, 3, 4, 5, 6, 7, 8, 9, 10, 11, 12, 13, 14, 15] : List Int), enc28 d m = 17920 + d / 8 * 128 + m * 8 + d % 8 := by decide +kernel
  exact all d (by simpa using hd2) m (by simpa using hm2)
theorem far_mk {s j k x y : Int} (hs : s = 0 ∨ s = 1) (hj : j = 0 ∨ j = 1) (hk : k = 0 ∨ k = 1) (hx : 0 ≤ x) (hx' : x < 1024) (hy : 0 ≤ y) (hy' : y < 2048) :
    farS (61440 + s * 1024 + x) (53248 + j * 8192 + k * 2048 + y) = nx j s * 8388608 + nx k s * 4194304 + x * 4096 + y * 2 - s * 16777216 := by
  unfold farS
  have e1 : (61440 + s * 1024 + x) / 1024 % 2 = s := by omega
  have e2 : (61440 + s * 1024 + x) % 1024 = x := by omega
  have e3 : (53248 + j * 8192 + k * 2048 + y) / 8192 % 2 = j := by rcases hj with rfl | rfl <;> rcases hk with rfl | rfl <;> omega
  have e4 : (53248 + j * 8192 + k * 2048 + y) / 2048 % 2 = k := by rcases hj with rfl | rfl <;> rcases hk with rfl | rfl <;> omega
  have e5 : (53248 + j * 8192 + k * 2048 + y) % 2048 = y := by rcases hj with rfl | rfl <;> rcases hk with rfl | rfl <;> omega
  rw [e1, e2, e3, e4, e5]
theorem long_mk {s j k x y n : Int} (hs : s = 0 ∨ s = 1) (hj : j = 0 ∨ j = 1) (hk : k = 0 ∨ k = 1) (hx : 0 ≤ x) (hx' : x < 1024) (hy : 0 ≤ y) (hy' : y < 2048) (hn : n = j * 8388608 + k * 4194304 + x * 4096 + y * 2 - s * 16777216) :
    longA n = 61440 + s * 1024 + x ∧ longB n = 53248 + nx j s * 8192 + nx k s * 2048 + y := by
  have e1 : longS n = s := by
    unfold longS
    rcases hs with rfl | rfl
    · rw [if_neg]; rcases hj with rfl | rfl <;> rcases hk with rfl | rfl <;> omega
    · rw [if_pos]; rcases hj with rfl | rfl <;> rcases hk with rfl | rfl <;> omega
  have e2 : n / 4096 % 1024 = x := by rcases hs with rfl | rfl <;> rcases hj with rfl | rfl <;> rcases hk with rfl | rfl <;> omega
  have e3 : n / 8388608 % 2 = j := by rcases hs with rfl | rfl <;> rcases hj with rfl | rfl <;> rcases hk with rfl | rfl <;> omega
  have e4 : n / 4194304 % 2 = k := by rcases hs with rfl | rfl <;> rcases hj with rfl | rfl <;> rcases hk with rfl | rfl <;> omega
  have e5 : n / 2 % 2048 = y := by rcases hs with rfl | rfl <;> rcases hj with rfl | rfl <;> rcases hk with rfl | rfl <;> omega
  rw [longA_eq, longB_eq, e1, e2, e3, e4, e5]
  exact ⟨rfl, rfl⟩
/-- a number, its parts -/
theorem parts_of (n : Int) (h0 : -16777216 ≤ n) (h1 : n ≤ 16777214) (h2 : n % 2 = 0) : ∃ s j k x y : Int, (s = 0 ∨ s = 1) ∧ (j = 0 ∨ j = 1) ∧ (k = 0 ∨ k = 1) ∧ 0 ≤ x ∧ x < 1024 ∧ 0 ≤ y ∧ y < 2048 ∧ n = j * 8388608 + k * 4194304 + x * 4096 + y * 2 - s * 16777216 := by
  obtain ⟨t, ht⟩ : ∃ t, n = 2 * t := ⟨n / 2, by omega⟩
  refine ⟨-(t / 2048 / 1024 / 2 / 2), t / 2048 / 1024 / 2 % 2, t / 2048 / 1024 % 2, t / 2048 % 1024, t % 2048, ?_, m2 _, m2 _, by omega, by omega, by omega, by omega, ?_⟩
  · clear h2; omega
  · clear h0 h1 h2; subst ht; omega
/-- there and back -/
theorem far_long (n : Int) (h0 : -16777216 ≤ n) (h1 : n ≤ 16777214) (h2 : n % 2 = 0) : farS (longA n) (longB n) = n := by
  obtain ⟨s, j, k, x, y, hs, hj, hk, hx, hx', hy, hy', hn⟩ := parts_of n h0 h1 h2
  obtain ⟨e1, e2⟩ := long_mk hs hj hk hx hx' hy hy' hn
  rw [e1, e2, far_mk hs (nx_bit hj hs).1 (nx_bit hk hs).1 hx hx' hy hy', (nx_bit hj hs).2, (nx_bit hk hs).2, ← hn]
theorem long_far (a b : Int) (h0 : a / 2048 = 30) (h1 : b / 16384 = 3) (h2 : b / 4096 % 2 = 1) : longA (farS a b) = a ∧ longB (farS a b) = b ∧ -16777216 ≤ farS a b ∧ farS a b ≤ 16777214 ∧ farS a b % 2 = 0 := by
  obtain ⟨s, x, hs, hx, hx', ha⟩ : ∃ s x : Int, (s = 0 ∨ s = 1) ∧ 0 ≤ x ∧ x < 1024 ∧ a = 61440 + s * 1024 + x := ⟨a / 1024 % 2, a % 1024, m2 _, by omega, by omega, by omega⟩
  obtain ⟨j, k, y, hj, hk, hy, hy', hb⟩ : ∃ j k y : Int, (j = 0 ∨ j = 1) ∧ (k = 0 ∨ k = 1) ∧ 0 ≤ y ∧ y < 2048 ∧ b = 53248 + j * 8192 + k * 2048 + y := ⟨b / 8192 % 2, b / 2048 % 2, b % 2048, m2 _, m2 _, by omega, by omega, by omega⟩
  have hn : farS a b = nx j s * 8388608 + nx k s * 4194304 + x * 4096 + y * 2 - s * 16777216 := by rw [ha, hb]; exact far_mk hs hj hk hx hx' hy hy'
  obtain ⟨e1, e2⟩ := long_mk hs (nx_bit hj hs).1 (nx_bit hk hs).1 hx hx' hy hy' hn
  rw [(nx_bit hj hs).2, (nx_bit hk hs).2, ← hb] at e2
  refine ⟨e1.trans ha.symm, e2, ?_⟩
  have n1 := (nx_bit hj hs).1
  have n2 := (nx_bit hk hs).1
  generalize nx j s = u at *
  generalize nx k s = v at *
  rw [hn]
  clear e1 e2 hn ha hb h0 h1 h2
  omega
end Go.Proofs.Th
namespace Go.Proofs.Th
open Go.RowKit Go.Proofs.On
def movI (a : Int) : Ins := ⟨28, a / 128 % 2 * 8 + a % 8, 0, a / 8 % 16, 0, 0⟩
def Zi : Ins := ⟨0, 0, 0, 0, 0, 0⟩
def decS : List Int → Ins × Int × Int
  | [] => (⟨0, 0, 0, 0, 0, 0⟩, 0, 7)
  | a :: t =>
    if a / 2048 = 30 then
      match t with
      | [] => (⟨0, 0, 0, 0, 0, 0⟩, 0, 7)
      | b :: _ => if bits .and .u16 b 53248 = 53248 then (⟨43, 0, 0, 0, farS a b, 0⟩, 2, 0) else (⟨0, 0, 0, 0, 0, 0⟩, 0, 8)
    else if a / 256 = 70 then (if rightS (movI a) then (movI a, 1, 0) else (⟨0, 0, 0, 0, 0, 0⟩, 0, 8))
    else match rowOf (opS a) with
      | none => (⟨0, 0, 0, 0, 0, 0⟩, 0, 8)
      | some (b, l) => if ((readUp (opS a) a l l.length).2 == b) && rightS (readUp (opS a) a l l.length).1 then ((readUp (opS a) a l l.length).1, 1, 0) else (⟨0, 0, 0, 0, 0, 0⟩, 0, 8)
end Go.Proofs.Th
namespace Go.Proofs.Th
open Go.RowKit Go.Proofs.On
structure Fm where
  d : Bool
  n : Bool
  m : Bool
  least : Int
  most : Int
  step : Int
def formOf (op : Int) : Option Fm :=
  if 12 ≤ op ∧ op ≤ 27 then some ⟨true, false, true, 0, 0, 1⟩
  else if 8 ≤ op ∧ op ≤ 11 then some ⟨true, false, false, 0, 255, 1⟩
  else if op = 1 then some ⟨true, false, true, 0, 31, 1⟩
  else if op = 2 then some ⟨true, false, true, 1, 32, 1⟩
  else if op = 3 then some ⟨true, false, true, 1, 32, 1⟩
  else if op = 4 then some ⟨true, true, true, 0, 0, 1⟩
  else if op = 5 then some ⟨true, true, true, 0, 0, 1⟩
  else if op = 29 then some ⟨true, true, true, 0, 0, 1⟩
  else if op = 30 then some ⟨true, true, true, 0, 0, 1⟩
  else if op = 6 then some ⟨true, true, false, 0, 7, 1⟩
  else if op = 7 then some ⟨true, true, false, 0, 7, 1⟩
  else if op = 31 then some ⟨true, true, false, 0, 124, 4⟩
  else if op = 32 then some ⟨true, true, false, 0, 124, 4⟩
  else if op = 33 then some ⟨true, true, false, 0, 31, 1⟩
  else if op = 34 then some ⟨true, true, false, 0, 31, 1⟩
  else if op = 35 then some ⟨true, false, false, 0, 1020, 4⟩
  else if op = 36 then some ⟨true, false, false, 0, 1020, 4⟩
  else if op = 37 then some ⟨false, false, false, 0, 508, 4⟩
  else if op = 38 then some ⟨false, false, false, 0, 508, 4⟩
  else if op = 39 then some ⟨false, false, false, 1, 511, 1⟩
  else if op = 40 then some ⟨false, false, false, 1, 511, 1⟩
  else if op = 41 then some ⟨false, false, false, (-256), 254, 2⟩
  else if op = 42 then some ⟨false, false, false, (-2048), 2046, 2⟩
  else if op = 43 then some ⟨false, false, false, (-16777216), 16777214, 2⟩
  else if op = 44 then some ⟨false, false, false, 0, 255, 1⟩
  else if op = 45 then some ⟨false, false, false, 0, 0, 0⟩
  else none
def inS (n a b s : Int) : Bool := decide (a ≤ n) && decide (n ≤ b) && (n.tmod s == 0)
def useS (u : Bool) (r : Int) : Bool := if u then decide (0 ≤ r) && decide (r ≤ 7) else r == 0
def rightF (f : Option Fm) (i : Ins) : Bool :=
  match f with
  | none => false
  | some f => useS f.d i.d && useS f.n i.n && useS f.m i.m && (if f.step = 0 then i.imm == 0 else inS i.imm f.least f.most f.step)
def rightR (i : Ins) : Bool :=
  if i.op = 41 then inS i.cond 0 13 1 && rightF (formOf 41) i
  else (i.cond == 0) && (if i.op = 28 then (i.n == 0) && (i.imm == 0) && inS i.d 0 14 1 && !(i.d == 13) && inS i.m 0 14 1 else rightF (formOf i.op) i)
theorem rr_none (op d n m imm cond : Int) (h41 : op ≠ 41) (h28 : op ≠ 28) (h43 : op ≠ 43) (h1 : formOf op = none) (h2 : rowOf op = none) : rightR ⟨op, d, n, m, imm, cond⟩ = rightS ⟨op, d, n, m, imm, cond⟩ := by
  simp [rightR, rightS, h41, h28, h43, h1, h2, rightF]
theorem rr_28 (d n m imm cond : Int) : rightR ⟨28, d, n, m, imm, cond⟩ = rightS ⟨28, d, n, m, imm, cond⟩ := by
  rw [Bool.eq_iff_iff]; simp [rightR, rightS, inS]; omega
theorem rr_43 (d n m imm cond : Int) : rightR ⟨43, d, n, m, imm, cond⟩ = rightS ⟨43, d, n, m, imm, cond⟩ := by
  rw [Bool.eq_iff_iff]; simp [rightR, rightS, rightF, formOf, useS, inS]; omega
theorem rr_1 (d n m imm cond : Int) : rightR ⟨1, d, n, m, imm, cond⟩ = rightS ⟨1, d, n, m, imm, cond⟩ := by
  rw [Bool.eq_iff_iff]; simp [rightR, rightS, rightF, formOf, rowOf, rowOk, rpS, reg, im, useS, inS]; try omega
theorem rr_2 (d n m imm cond : Int) : rightR ⟨2, d, n, m, imm, cond⟩ = rightS ⟨2, d, n, m, imm, cond⟩ := by
  rw [Bool.eq_iff_iff]; simp [rightR, rightS, rightF, formOf, rowOf, rowOk, rpS, reg, im, useS, inS]; try omega
theorem rr_3 (d n m imm cond : Int) : rightR ⟨3, d, n, m, imm, cond⟩ = rightS ⟨3, d, n, m, imm, cond⟩ := by
  rw [Bool.eq_iff_iff]; simp [rightR, rightS, rightF, formOf, rowOf, rowOk, rpS, reg, im, useS, inS]; try omega
theorem rr_4 (d n m imm cond : Int) : rightR ⟨4, d, n, m, imm, cond⟩ = rightS ⟨4, d, n, m, imm, cond⟩ := by
  rw [Bool.eq_iff_iff]; simp [rightR, rightS, rightF, formOf, rowOf, rowOk, rpS, reg, useS, inS]; try omega
theorem rr_5 (d n m imm cond : Int) : rightR ⟨5, d, n, m, imm, cond⟩ = rightS ⟨5, d, n, m, imm, cond⟩ := by
  rw [Bool.eq_iff_iff]; simp [rightR, rightS, rightF, formOf, rowOf, rowOk, rpS, reg, useS, inS]; try omega
theorem rr_29 (d n m imm cond : Int) : rightR ⟨29, d, n, m, imm, cond⟩ = rightS ⟨29, d, n, m, imm, cond⟩ := by
  rw [Bool.eq_iff_iff]; simp [rightR, rightS, rightF, formOf, rowOf, rowOk, rpS, reg, useS, inS]; try omega
theorem rr_30 (d n m imm cond : Int) : rightR ⟨30, d, n, m, imm, cond⟩ = rightS ⟨30, d, n, m, imm, cond⟩ := by
  rw [Bool.eq_iff_iff]; simp [rightR, rightS, rightF, formOf, rowOf, rowOk, rpS, reg, useS, inS]; try omega
theorem rr_6 (d n m imm cond : Int) : rightR ⟨6, d, n, m, imm, cond⟩ = rightS ⟨6, d, n, m, imm, cond⟩ := by
  rw [Bool.eq_iff_iff]; simp [rightR, rightS, rightF, formOf, rowOf, rowOk, rpS, reg, im, useS, inS]; try omega
theorem rr_7 (d n m imm cond : Int) : rightR ⟨7, d, n, m, imm, cond⟩ = rightS ⟨7, d, n, m, imm, cond⟩ := by
  rw [Bool.eq_iff_iff]; simp [rightR, rightS, rightF, formOf, rowOf, rowOk, rpS, reg, im, useS, inS]; try omega
theorem rr_31 (d n m imm cond : Int) : rightR ⟨31, d, n, m, imm, cond⟩ = rightS ⟨31, d, n, m, imm, cond⟩ := by
  rw [Bool.eq_iff_iff]; simp [rightR, rightS, rightF, formOf, rowOf, rowOk, rpS, reg, im, useS, inS]; try omega
theorem rr_32 (d n m imm cond : Int) : rightR ⟨32, d, n, m, imm, cond⟩ = rightS ⟨32, d, n, m, imm, cond⟩ := by
  rw [Bool.eq_iff_iff]; simp [rightR, rightS, rightF, formOf, rowOf, rowOk, rpS, reg, im, useS, inS]; try omega
theorem rr_33 (d n m imm cond : Int) : rightR ⟨33, d, n, m, imm, cond⟩ = rightS ⟨33, d, n, m, imm, cond⟩ := by
  rw [Bool.eq_iff_iff]; simp [rightR, rightS, rightF, formOf, rowOf, rowOk, rpS, reg, im, useS, inS]; try omega
theorem rr_34 (d n m imm cond : Int) : rightR ⟨34, d, n, m, imm, cond⟩ = rightS ⟨34, d, n, m, imm, cond⟩ := by
  rw [Bool.eq_iff_iff]; simp [rightR, rightS, rightF, formOf, rowOf, rowOk, rpS, reg, im, useS, inS]; try omega
theorem rr_35 (d n m imm cond : Int) : rightR ⟨35, d, n, m, imm, cond⟩ = rightS ⟨35, d, n, m, imm, cond⟩ := by
  rw [Bool.eq_iff_iff]; simp [rightR, rightS, rightF, formOf, rowOf, rowOk, rpS, reg, im, useS, inS]; try omega
theorem rr_36 (d n m imm cond : Int) : rightR ⟨36, d, n, m, imm, cond⟩ = rightS ⟨36, d, n, m, imm, cond⟩ := by
  rw [Bool.eq_iff_iff]; simp [rightR, rightS, rightF, formOf, rowOf, rowOk, rpS, reg, im, useS, inS]; try omega
theorem rr_37 (d n m imm cond : Int) : rightR ⟨37, d, n, m, imm, cond⟩ = rightS ⟨37, d, n, m, imm, cond⟩ := by
  rw [Bool.eq_iff_iff]; simp [rightR, rightS, rightF, formOf, rowOf, rowOk, rpS, im, useS, inS]; try omega
theorem rr_38 (d n m imm cond : Int) : rightR ⟨38, d, n, m, imm, cond⟩ = rightS ⟨38, d, n, m, imm, cond⟩ := by
  rw [Bool.eq_iff_iff]; simp [rightR, rightS, rightF, formOf, rowOf, rowOk, rpS, im, useS, inS]; try omega
theorem rr_39 (d n m imm cond : Int) : rightR ⟨39, d, n, m, imm, cond⟩ = rightS ⟨39, d, n, m, imm, cond⟩ := by
  rw [Bool.eq_iff_iff]; simp [rightR, rightS, rightF, formOf, rowOf, rowOk, rpS, im, useS, inS]; try omega
theorem rr_40 (d n m imm cond : Int) : rightR ⟨40, d, n, m, imm, cond⟩ = rightS ⟨40, d, n, m, imm, cond⟩ := by
  rw [Bool.eq_iff_iff]; simp [rightR, rightS, rightF, formOf, rowOf, rowOk, rpS, im, useS, inS]; try omega
theorem rr_41 (d n m imm cond : Int) : rightR ⟨41, d, n, m, imm, cond⟩ = rightS ⟨41, d, n, m, imm, cond⟩ := by
  rw [Bool.eq_iff_iff]; simp [rightR, rightS, rightF, formOf, rowOf, rowOk, rpS, im, useS, inS]; try omega
theorem rr_42 (d n m imm cond : Int) : rightR ⟨42, d, n, m, imm, cond⟩ = rightS ⟨42, d, n, m, imm, cond⟩ := by
  rw [Bool.eq_iff_iff]; simp [rightR, rightS, rightF, formOf, rowOf, rowOk, rpS, im, useS, inS]; try omega
theorem rr_44 (d n m imm cond : Int) : rightR ⟨44, d, n, m, imm, cond⟩ = rightS ⟨44, d, n, m, imm, cond⟩ := by
  rw [Bool.eq_iff_iff]; simp [rightR, rightS, rightF, formOf, rowOf, rowOk, rpS, im, useS, inS]; try omega
theorem rr_45 (d n m imm cond : Int) : rightR ⟨45, d, n, m, imm, cond⟩ = rightS ⟨45, d, n, m, imm, cond⟩ := by
  rw [Bool.eq_iff_iff]; simp [rightR, rightS, rightF, formOf, rowOf, rowOk, rpS, useS]; try omega
theorem rr_and (op d n m imm cond : Int) (h1 : 12 ≤ op) (h2 : op ≤ 27) : rightR ⟨op, d, n, m, imm, cond⟩ = rightS ⟨op, d, n, m, imm, cond⟩ := by
  have h41 : op ≠ 41 := by omega
  have h28 : op ≠ 28 := by omega
  have h43 : op ≠ 43 := by omega
  have hA : (12 ≤ op ∧ op ≤ 27) := by omega
  have hM : 8 ≤ op ∧ op ≤ 11 ∨ True := .inr trivial
  have hf : formOf op = some ⟨true, false, true, 0, 0, 1⟩ := by unfold formOf; rw [if_pos hA]
  have hr : ∃ b, rowOf op = some (b, [reg 0 0, reg 2 3]) := by unfold rowOf; rw [if_pos hA]; exact ⟨_, rfl⟩
  obtain ⟨b, hr⟩ := hr
  rw [Bool.eq_iff_iff]; simp [rightR, rightS, rightF, hf, hr, h41, h28, h43, rowOk, rpS, reg, useS, inS]; try omega
theorem rr_mov (op d n m imm cond : Int) (h1 : 8 ≤ op) (h2 : op ≤ 11) : rightR ⟨op, d, n, m, imm, cond⟩ = rightS ⟨op, d, n, m, imm, cond⟩ := by
  have h41 : op ≠ 41 := by omega
  have h28 : op ≠ 28 := by omega
  have h43 : op ≠ 43 := by omega
  have hA : ¬ (12 ≤ op ∧ op ≤ 27) := by omega
  have hM : 8 ≤ op ∧ op ≤ 11 ∨ True := .inr trivial
  have hf : formOf op = some ⟨true, false, false, 0, 255, 1⟩ := by unfold formOf; rw [if_neg hA, if_pos ⟨h1, h2⟩]
  have hr : ∃ b, rowOf op = some (b, [reg 0 8, im 0 8 0 255 1]) := by unfold rowOf; rw [if_neg hA, if_pos ⟨h1, h2⟩]; exact ⟨_, rfl⟩
  obtain ⟨b, hr⟩ := hr
  rw [Bool.eq_iff_iff]; simp [rightR, rightS, rightF, hf, hr, h41, h28, h43, rowOk, rpS, reg, im, useS, inS]; try omega
theorem rightR_eq (i : Ins) : rightR i = rightS i := by
  obtain ⟨op, d, n, m, imm, cond⟩ := i
  by_cases e28 : op = 28
  · subst e28; exact rr_28 d n m imm cond
  by_cases e1 : op = 1
  · subst e1; exact rr_1 d n m imm cond
  by_cases e2 : op = 2
  · subst e2; exact rr_2 d n m imm cond
  by_cases e3 : op = 3
  · subst e3; exact rr_3 d n m imm cond
  by_cases e4 : op = 4
  · subst e4; exact rr_4 d n m imm cond
  by_cases e5 : op = 5
  · subst e5; exact rr_5 d n m imm cond
  by_cases e29 : op = 29
  · subst e29; exact rr_29 d n m imm cond
  by_cases e30 : op = 30
  · subst e30; exact rr_30 d n m imm cond
  by_cases e6 : op = 6
  · subst e6; exact rr_6 d n m imm cond
  by_cases e7 : op = 7
  · subst e7; exact rr_7 d n m imm cond
  by_cases e31 : op = 31
  · subst e31; exact rr_31 d n m imm cond
  by_cases e32 : op = 32
  · subst e32; exact rr_32 d n m imm cond
  by_cases e33 : op = 33
  · subst e33; exact rr_33 d n m imm cond
  by_cases e34 : op = 34
  · subst e34; exact rr_34 d n m imm cond
  by_cases e35 : op = 35
  · subst e35; exact rr_35 d n m imm cond
  by_cases e36 : op = 36
  · subst e36; exact rr_36 d n m imm cond
  by_cases e37 : op = 37
  · subst e37; exact rr_37 d n m imm cond
  by_cases e38 : op = 38
  · subst e38; exact rr_38 d n m imm cond
  by_cases e39 : op = 39
  · subst e39; exact rr_39 d n m imm cond
  by_cases e40 : op = 40
  · subst e40; exact rr_40 d n m imm cond
  by_cases e41 : op = 41
  · subst e41; exact rr_41 d n m imm cond
  by_cases e42 : op = 42
  · subst e42; exact rr_42 d n m imm cond
  by_cases e43 : op = 43
  · subst e43; exact rr_43 d n m imm cond
  by_cases e44 : op = 44
  · subst e44; exact rr_44 d n m imm cond
  by_cases e45 : op = 45
  · subst e45; exact rr_45 d n m imm cond
  by_cases eA : 12 ≤ op ∧ op ≤ 27
  · exact rr_and op d n m imm cond eA.1 eA.2
  by_cases eM : 8 ≤ op ∧ op ≤ 11
  · exact rr_mov op d n m imm cond eM.1 eM.2
  exact rr_none op d n m imm cond e41 e28 e43 (by simp [formOf, eA, eM, e1, e2, e3, e4, e5, e29, e30, e6, e7, e31, e32, e33, e34, e35, e36, e37, e38, e39, e40, e41, e42, e43, e44, e45]) (by simp [rowOf, eA, eM, e1, e2, e3, e4, e5, e29, e30, e6, e7, e31, e32, e33, e34, e35, e36, e37, e38, e39, e40, e41, e42, e44, e45])
end Go.Proofs.Th
namespace Go.Proofs.Th
open Go.RowKit Go.Proofs.On
/-- the numbers that a part may be -/
def domS : List Sl → Int → List Int
  | [], _ => [0]
  | s :: l, k => if s.part = k then (List.range ((s.most - s.least) / s.step + 1).toNat).map (fun (j : Nat) => s.least + (j : Int) * s.step) else domS l k
theorem dom_mem {l : List Sl} (hst : ∀ s ∈ l, 0 < s.step ∧ s.least.tmod s.step = 0) {v k : Int} (h : rpS l v k = true) : v ∈ domS l k := by
  induction l with
  | nil => simp [rpS] at h; simp [domS, h]
  | cons s l ih =>
    obtain ⟨h1, h2⟩ := hst s (List.mem_cons_self ..)
    unfold rpS at h
    unfold domS
    by_cases hp : s.part = k
    · rw [if_pos hp] at h ⊢
      simp at h
      obtain ⟨⟨a, b⟩, c⟩ := h
      have hd1 : s.step ∣ v := Int.dvd_of_tmod_eq_zero c
      have hd2 : s.step ∣ s.least := Int.dvd_of_tmod_eq_zero h2
      obtain ⟨x, hx⟩ := hd1
      obtain ⟨y, hy⟩ := hd2
      have hxy : y ≤ x := by
        refine Int.not_lt.mp fun hlt => ?_
        have : s.step * x < s.step * y := Int.mul_lt_mul_of_pos_left hlt h1
        omega
      have hz : x - y ≤ (s.most - s.least) / s.step := by
        apply Int.le_ediv_of_mul_le h1
        rw [Int.sub_mul, Int.mul_comm x, Int.mul_comm y]
        omega
      refine List.mem_map.mpr ⟨(x - y).toNat, List.mem_range.mpr (by omega), ?_⟩
      rw [Int.toNat_of_nonneg (by omega), Int.sub_mul, Int.mul_comm x, Int.mul_comm y]
      omega
    · rw [if_neg hp] at h ⊢
      exact ih (fun s hs => hst s (List.mem_cons_of_mem _ hs)) h
def okS2 (s : Sl) : Bool := decide (0 < s.step) && (s.least.tmod s.step == 0)
def chkRow2 : Option (Int × List Sl) → Bool
  | none => true
  | some p => p.2.all okS2
theorem chk2_ite (c : Prop) [Decidable c] (a b : Option (Int × List Sl)) (ha : chkRow2 a = true) (hb : chkRow2 b = true) : chkRow2 (if c then a else b) = true := by
  by_cases h : c
  · rw [if_pos h]; exact ha
  · rw [if_neg h]; exact hb
theorem chkRow2_all (op : Int) : chkRow2 (rowOf op) = true := by
  unfold rowOf
  repeat' (first | (with_reducible refine chk2_ite _ _ _ ?_ ?_) | rfl)
theorem rowOf_ok2 {op b : Int} {l : List Sl} (h : rowOf op = some (b, l)) : ∀ s ∈ l, 0 < s.step ∧ s.least.tmod s.step = 0 := by
  have := chkRow2_all op
  rw [h] at this
  simp [chkRow2, okS2] at this
  exact this
/-- one halfword is decoded as the instruction -/
def back1 (i : Ins) : Bool :=
  match encL i with
  | [h] => decide (0 ≤ h) && decide (h < 65536) && !(h / 2048 == 30) && !(h / 256 == 70) && (opS h == i.op) && (match rowOf (opS h) with
    | none => false
    | some (b, l) => decide (readUp (opS h) h l l.length = (i, b)))
  | _ => false
def backAll (op : Int) : Bool :=
  match rowOf op with
  | none => true
  | some (_, l) => (domS l 0).all fun d => (domS l 1).all fun n => (domS l 2).all fun m => (domS l 3).all fun imm => (domS l 4).all fun c => back1 ⟨op, d, n, m, imm, c⟩
theorem back_of {i : Ins} (hA : backAll i.op = true) (h28 : i.op ≠ 28) (h43 : i.op ≠ 43) (hr : rightS i = true) : back1 i = true := by
  obtain ⟨op, d, n, m, imm, c⟩ := i
  unfold rightS at hr
  rw [if_neg h28, if_neg h43] at hr
  dsimp only at hA hr
  unfold backAll at hA
  cases hrow : rowOf op with
  | none => rw [hrow] at hr; cases hr
  | some p =>
    obtain ⟨b, l⟩ := p
    rw [hrow] at hA hr
    dsimp only at hA hr
    have hs := rowOf_ok2 hrow
    unfold rowOk at hr
    simp only [Bool.and_eq_true] at hr
    obtain ⟨⟨⟨⟨r1, r2⟩, r3⟩, r4⟩, r5⟩ := hr
    rw [List.all_eq_true] at hA
    have hA := hA d (dom_mem hs r1)
    rw [List.all_eq_true] at hA
    have hA := hA n (dom_mem hs r2)
    rw [List.all_eq_true] at hA
    have hA := hA m (dom_mem hs r3)
    rw [List.all_eq_true] at hA
    have hA := hA imm (dom_mem hs r4)
    rw [List.all_eq_true] at hA
    exact hA c (dom_mem hs r5)
end Go.Proofs.Th
namespace Go.Proofs.Th
open Go.RowKit Go.Proofs.On
def signS (n k : Int) : Int := if k / 2 ≤ n then n - k else n
def decR1 (x : Int) : Ins :=
  if x < 6144 then ⟨1 + x / 2048, x % 8, 0, x / 8 % 8, (if 1 + x / 2048 ≠ 1 ∧ x / 64 % 32 = 0 then 32 else x / 64 % 32), 0⟩
  else if x < 7168 then ⟨4 + x / 512 % 2, x % 8, x / 8 % 8, x / 64 % 8, 0, 0⟩
  else if x < 8192 then ⟨6 + x / 512 % 2, x % 8, x / 8 % 8, 0, x / 64 % 8, 0⟩
  else if x < 16384 then ⟨8 + x / 2048 % 4, x / 256 % 8, 0, 0, x % 256, 0⟩
  else if x < 17408 then ⟨12 + x / 64 % 16, x % 8, 0, x / 8 % 8, 0, 0⟩
  else if x / 256 = 70 then ⟨28, x / 128 % 2 * 8 + x % 8, 0, x / 8 % 16, 0, 0⟩
  else if x / 512 = 40 then ⟨30, x % 8, x / 8 % 8, x / 64 % 8, 0, 0⟩
  else if x / 512 = 44 then ⟨29, x % 8, x / 8 % 8, x / 64 % 8, 0, 0⟩
  else if x / 2048 = 12 then ⟨32, x % 8, x / 8 % 8, 0, x / 64 % 32 * 4, 0⟩
  else if x / 2048 = 13 then ⟨31, x % 8, x / 8 % 8, 0, x / 64 % 32 * 4, 0⟩
  else if x / 2048 = 14 then ⟨34, x % 8, x / 8 % 8, 0, x / 64 % 32, 0⟩
  else if x / 2048 = 15 then ⟨33, x % 8, x / 8 % 8, 0, x / 64 % 32, 0⟩
  else if x / 2048 = 18 then ⟨36, x / 256 % 8, 0, 0, x % 256 * 4, 0⟩
  else if x / 2048 = 19 then ⟨35, x / 256 % 8, 0, 0, x % 256 * 4, 0⟩
  else if x / 128 = 352 then ⟨37, 0, 0, 0, x % 128 * 4, 0⟩
  else if x / 128 = 353 then ⟨38, 0, 0, 0, x % 128 * 4, 0⟩
  else if x / 512 = 90 then ⟨39, 0, 0, 0, x % 512, 0⟩
  else if x / 512 = 94 then ⟨40, 0, 0, 0, x % 512, 0⟩
  else if x = 48896 then ⟨45, 0, 0, 0, 0, 0⟩
  else if x / 4096 = 13 ∧ x / 256 % 16 < 14 then ⟨41, 0, 0, 0, 2 * signS (x % 256) 256, x / 256 % 16⟩
  else if x / 256 = 223 then ⟨44, 0, 0, 0, x % 256, 0⟩
  else if x / 2048 = 28 then ⟨42, 0, 0, 0, 2 * signS (x % 2048) 2048, 0⟩
  else ⟨0, 0, 0, 0, 0, 0⟩
/-- one halfword: what is decoded is what the document says, and is encoded as the same halfword -/
def chkH (a : Int) : Bool :=
  let r := decR1 a
  if rightS r then decide (decS [a] = (r, 1, 0)) && decide (encL r = [a]) else decide (decS [a] = (⟨0, 0, 0, 0, 0, 0⟩, 0, 8))
def chkB (k : Nat) : Bool := (List.range 256).all fun j => chkH ((k * 256 + j : Nat) : Int)
end Go.Proofs.Th
