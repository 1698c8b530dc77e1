/- MERGED by mergech.py: XTh4 XTh5. -/
import Derived.Test.YtpihjhfaeloapaaTh3
import Derived.Laws.BitsAllLaws
namespace Go.Proofs.Th
open Go.RowKit Go.Proofs.On
def farX (a b by_ : Int) : Int := wrap64 (1 - bits .xor .i64 (wrap64 (bits .and .u16 (b / by_) 1)) (wrap64 (bits .and .u16 (a / 1024) 1)))
def farE (a b : Int) : Int := wrap64 (bits .or .i64 (bits .or .i64 (bits .or .i64 (wrap64 (farX a b 8192 * 8388608)) (wrap64 (farX a b 2048 * 4194304))) (wrap64 (wrap64 (bits .and .u16 a 1023) * 4096))) (wrap64 (wrap64 (bits .and .u16 b 2047) * 2)) - wrap64 (wrap64 (bits .and .u16 (a / 1024) 1) * 16777216))
theorem i64_wraps (n : Int) (h0 : 0 ≤ n) (h1 : n < 2 ^ 63) : IntKind.i64.wrap n = n := by rw [IntKind.wrap_i64]; omega
theorem u16_wraps (n : Int) (h0 : 0 ≤ n) (h1 : n < 2 ^ 16) : IntKind.u16.wrap n = n := by rw [IntKind.wrap_u16]; omega
theorem i64_join (i : Nat) {x y : Int} (h0 : 0 ≤ x) (h1 : x % 2 ^ i = 0) (h2 : x < 2 ^ 63) (h3 : 0 ≤ y) (h4 : y < 2 ^ i) (h5 : y < 2 ^ 63) : bits .or .i64 x y = x + y := bits_join .i64 63 (by decide) i64_wraps i x y h0 h1 h2 h3 h4 h5
theorem u16_join (i : Nat) {x y : Int} (h0 : 0 ≤ x) (h1 : x % 2 ^ i = 0) (h2 : x < 2 ^ 16) (h3 : 0 ≤ y) (h4 : y < 2 ^ i) (h5 : y < 2 ^ 16) : bits .or .u16 x y = x + y := bits_join .u16 16 (by decide) u16_wraps i x y h0 h1 h2 h3 h4 h5
theorem u16_maskP (i : Nat) (hi : i ≤ 16) (x : Int) (h0 : 0 ≤ x) (h1 : x < 2 ^ 16) : bits .and .u16 x (2 ^ i - 1) = x % 2 ^ i := bits_mask .u16 16 (by decide) u16_wraps i hi x h0 h1
theorem i64_mask (i : Nat) (hi : i ≤ 62) (x : Int) : bits .and .i64 x (2 ^ i - 1) = x % 2 ^ i := by
  have hpos : 0 < 2 ^ i := Nat.two_pow_pos i
  have hlt : 2 ^ i < 2 ^ 63 := Nat.pow_lt_pow_right (by decide) (by omega)
  have hc : ((2 : Int) ^ i - 1) = ((2 ^ i - 1 : Nat) : Int) := by rw [Int.natCast_sub hpos]; simp
  have hd : ((2 ^ i : Nat) : Int) ∣ ((2 ^ 64 : Nat) : Int) := Int.ofNat_dvd.mpr (Nat.pow_dvd_pow 2 (by omega))
  show IntKind.i64.wrap ((BitVec.ofInt 64 x &&& BitVec.ofInt 64 (2 ^ i - 1)).toNat : Int) = _
  rw [hc, BitVec.toNat_and, BitVec.ofInt_natCast, BitVec.toNat_ofNat, Nat.mod_eq_of_lt (show 2 ^ i - 1 < 2 ^ 64 by omega), Nat.and_two_pow_sub_one_eq_mod, BitVec.toNat_ofInt]
  have e : (((x % ((2 ^ 64 : Nat) : Int)).toNat % 2 ^ i : Nat) : Int) = x % 2 ^ i := by
    rw [Int.natCast_emod, Int.toNat_of_nonneg (Int.emod_nonneg _ (by decide)), Int.emod_emod_of_dvd _ hd]; simp
  rw [e]
  have h1 : 0 ≤ x % 2 ^ i := Int.emod_nonneg _ (by have : (0 : Int) < 2 ^ i := by exact_mod_cast hpos
                                                   omega)
  have h2 : x % 2 ^ i < 2 ^ i := Int.emod_lt_of_pos _ (by exact_mod_cast hpos)
  have h3 : (2 : Int) ^ i < 2 ^ 63 := by exact_mod_cast hlt
  exact i64_wraps _ h1 (by omega)
theorem i64_xor2 {x y : Int} (hx : x = 0 ∨ x = 1) (hy : y = 0 ∨ y = 1) : bits .xor .i64 x y = (x + y) % 2 := by
  rcases hx with rfl | rfl <;> rcases hy with rfl | rfl <;> decide +kernel
theorem w64 {n : Int} (h0 : -9223372036854775808 ≤ n) (h1 : n < 9223372036854775808) : wrap64 n = n := by unfold wrap64; omega
/-- one less a sum of two bits -/
def nx (x y : Int) : Int := 1 - (x + y) % 2
def farS (a b : Int) : Int := nx (b / 8192 % 2) (a / 1024 % 2) * 8388608 + nx (b / 2048 % 2) (a / 1024 % 2) * 4194304 + a % 1024 * 4096 + b % 2048 * 2 - a / 1024 % 2 * 16777216
theorem nx_bit {x y : Int} (hx : x = 0 ∨ x = 1) (hy : y = 0 ∨ y = 1) : (nx x y = 0 ∨ nx x y = 1) ∧ nx (nx x y) y = x := by
  rcases hx with rfl | rfl <;> rcases hy with rfl | rfl <;> decide +kernel
theorem m2 (x : Int) : x % 2 = 0 ∨ x % 2 = 1 := by omega
theorem u16_m1 {x : Int} (h0 : 0 ≤ x) (h1 : x < 65536) : bits .and .u16 x 1 = x % 2 := u16_maskP 1 (by decide) x h0 h1
theorem u16_m7 {x : Int} (h0 : 0 ≤ x) (h1 : x < 65536) : bits .and .u16 x 7 = x % 8 := u16_maskP 3 (by decide) x h0 h1
theorem u16_m15 {x : Int} (h0 : 0 ≤ x) (h1 : x < 65536) : bits .and .u16 x 15 = x % 16 := u16_maskP 4 (by decide) x h0 h1
theorem u16_m1023 {x : Int} (h0 : 0 ≤ x) (h1 : x < 65536) : bits .and .u16 x 1023 = x % 1024 := u16_maskP 10 (by decide) x h0 h1
theorem u16_m2047 {x : Int} (h0 : 0 ≤ x) (h1 : x < 65536) : bits .and .u16 x 2047 = x % 2048 := u16_maskP 11 (by decide) x h0 h1
theorem i64_m1 (x : Int) : bits .and .i64 x 1 = x % 2 := i64_mask 1 (by decide) x
theorem i64_m7 (x : Int) : bits .and .i64 x 7 = x % 8 := i64_mask 3 (by decide) x
theorem i64_m1023 (x : Int) : bits .and .i64 x 1023 = x % 1024 := i64_mask 10 (by decide) x
theorem i64_m2047 (x : Int) : bits .and .i64 x 2047 = x % 2048 := i64_mask 11 (by decide) x
theorem farX_eq (a b : Int) (k : Int) (ha : 0 ≤ a) (ha' : a < 65536) (hb : 0 ≤ b / k) (hb' : b / k < 65536) : farX a b k = nx (b / k % 2) (a / 1024 % 2) := by
  unfold farX
  rw [u16_m1 hb hb', u16_m1 (x := a / 1024) (by omega) (by omega)]
  have h1 := m2 (b / k)
  have h2 := m2 (a / 1024)
  generalize b / k % 2 = x at *
  generalize a / 1024 % 2 = y at *
  have e1 : wrap64 x = x := w64 (by omega) (by omega)
  have e2 : wrap64 y = y := w64 (by omega) (by omega)
  rw [e1, e2, i64_xor2 h1 h2]
  rcases h1 with rfl | rfl <;> rcases h2 with rfl | rfl <;> decide +kernel
theorem farJoin {x y A B s : Int} (hx : x = 0 ∨ x = 1) (hy : y = 0 ∨ y = 1) (hA : 0 ≤ A) (hA' : A < 1024) (hB : 0 ≤ B) (hB' : B < 2048) (hs : s = 0 ∨ s = 1) :
    wrap64 (bits .or .i64 (bits .or .i64 (bits .or .i64 (wrap64 (x * 8388608)) (wrap64 (y * 4194304))) (wrap64 (wrap64 A * 4096))) (wrap64 (wrap64 B * 2)) - wrap64 (wrap64 s * 16777216)) = x * 8388608 + y * 4194304 + A * 4096 + B * 2 - s * 16777216 := by
  have e1 : wrap64 (x * 8388608) = x * 8388608 := w64 (by omega) (by omega)
  have e2 : wrap64 (y * 4194304) = y * 4194304 := w64 (by omega) (by omega)
  have e3 : wrap64 A = A := w64 (by omega) (by omega)
  have e4 : wrap64 B = B := w64 (by omega) (by omega)
  have e5 : wrap64 s = s := w64 (by omega) (by omega)
  have e6 : wrap64 (A * 4096) = A * 4096 := w64 (by omega) (by omega)
  have e7 : wrap64 (B * 2) = B * 2 := w64 (by omega) (by omega)
  have e8 : wrap64 (s * 16777216) = s * 16777216 := w64 (by omega) (by omega)
  have j1 : bits .or .i64 (x * 8388608) (y * 4194304) = x * 8388608 + y * 4194304 := by rcases hx with rfl | rfl <;> rcases hy with rfl | rfl <;> decide +kernel
  have j2 : bits .or .i64 (x * 8388608 + y * 4194304) (A * 4096) = x * 8388608 + y * 4194304 + A * 4096 := by
    rcases hx with rfl | rfl <;> rcases hy with rfl | rfl <;> exact i64_join 22 (by decide) (by decide) (by decide) (by omega) (by omega) (by omega)
  have j3 : bits .or .i64 (x * 8388608 + y * 4194304 + A * 4096) (B * 2) = x * 8388608 + y * 4194304 + A * 4096 + B * 2 := by
    rcases hx with rfl | rfl <;> rcases hy with rfl | rfl <;> exact i64_join 12 (by omega) (by omega) (by omega) (by omega) (by omega) (by omega)
  rw [e3, e4, e5, e1, e2, e6, e7, e8, j1, j2, j3]
  exact w64 (by omega) (by omega)
theorem farE_eq (a b : Int) (ha : 0 ≤ a) (ha' : a < 65536) (hb : 0 ≤ b) (hb' : b < 65536) : farE a b = farS a b := by
  unfold farE farS
  rw [farX_eq a b 8192 ha ha' (by omega) (by omega), farX_eq a b 2048 ha ha' (by omega) (by omega), u16_m1023 ha ha', u16_m2047 hb hb', u16_m1 (x := a / 1024) (by omega) (by omega)]
  exact farJoin (nx_bit (m2 _) (m2 _)).1 (nx_bit (m2 _) (m2 _)).1 (by omega) (by omega) (by omega) (by omega) (m2 _)
theorem longS_or (imm : Int) : longS imm = 0 ∨ longS imm = 1 := by unfold longS; by_cases h : imm < 0 <;> simp [h]
theorem longA_eq (imm : Int) : longA imm = 61440 + longS imm * 1024 + imm / 4096 % 1024 := by
  unfold longA
  rw [i64_m1023]
  have hs := longS_or imm
  have h0 : 0 ≤ imm / 4096 % 1024 := by omega
  have h1 : imm / 4096 % 1024 < 1024 := by omega
  generalize imm / 4096 % 1024 = x at *
  generalize longS imm = s at *
  have e1 : bits .or .i64 61440 (wrap64 (s * 1024)) = 61440 + s * 1024 := by rcases hs with rfl | rfl <;> decide +kernel
  rw [e1]
  have j : bits .or .i64 (61440 + s * 1024) x = 61440 + s * 1024 + x := by
    rcases hs with rfl | rfl <;> exact i64_join 10 (by decide) (by decide) (by decide) h0 (by omega) (by omega)
  rw [j, IntKind.wrap_u16]
  omega
theorem longJ_eq (imm k : Int) : longJ imm k = nx (imm / k % 2) (longS imm) := by
  unfold longJ
  rw [i64_m1]
  have h1 := m2 (imm / k)
  have hs := longS_or imm
  generalize imm / k % 2 = x at *
  generalize longS imm = s at *
  rw [i64_xor2 h1 hs]
  rcases h1 with rfl | rfl <;> rcases hs with rfl | rfl <;> decide +kernel
theorem longB_eq (imm : Int) : longB imm = 53248 + nx (imm / 8388608 % 2) (longS imm) * 8192 + nx (imm / 4194304 % 2) (longS imm) * 2048 + imm / 2 % 2048 := by
  unfold longB
  rw [longJ_eq, longJ_eq, i64_m2047]
  have n1 := (nx_bit (m2 (imm / 8388608)) (longS_or imm)).1
  have n2 := (nx_bit (m2 (imm / 4194304)) (longS_or imm)).1
  have h0 : 0 ≤ imm / 2 % 2048 := by omega
  have h1 : imm / 2 % 2048 < 2048 := by omega
  generalize nx (imm / 8388608 % 2) (longS imm) = x at *
  generalize nx (imm / 4194304 % 2) (longS imm) = y at *
  generalize imm / 2 % 2048 = z at *
  have e1 : bits .or .i64 (bits .or .i64 53248 (wrap64 (x * 8192))) (wrap64 (y * 2048)) = 53248 + x * 8192 + y * 2048 := by rcases n1 with rfl | rfl <;> rcases n2 with rfl | rfl <;> decide +kernel
  rw [e1]
  have j : bits .or .i64 (53248 + x * 8192 + y * 2048) z = 53248 + x * 8192 + y * 2048 + z := by
    rcases n1 with rfl | rfl <;> rcases n2 with rfl | rfl <;> exact i64_join 11 (by decide) (by decide) (by decide) h0 (by omega) (by omega)
  rw [j, IntKind.wrap_u16]
  omega
theorem enc28_eq (d m : Int) (hd : 0 ≤ d) (hd' : d < 16) (hm : 0 ≤ m) (hm' : m < 16) : enc28 d m = 17920 + d / 8 * 128 + m * 8 + d % 8 := by
  have hd2 : d = 0 ∨ d = 1 ∨ d = 2 ∨ d = 3 ∨ d = 4 ∨ d = 5 ∨ d = 6 ∨ d = 7 ∨ d = 8 ∨ d = 9 ∨ d = 10 ∨ d = 11 ∨ d = 12 ∨ d = 13 ∨ d = 14 ∨ d = 15 := by omega
  have hm2 : m = 0 ∨ m = 1 ∨ m = 2 ∨ m = 3 ∨ m = 4 ∨ m = 5 ∨ m = 6 ∨ m = 7 ∨ m = 8 ∨ m = 9 ∨ m = 10 ∨ m = 11 ∨ m = 12 ∨ m = 13 ∨ m = 14 ∨ m = 15 := by omega
  have all : ∀ d ∈ ([0, 1, 2, 3, 4, 5, 6, 7, 8, 9, 10, 11, 12, 13, 14, 15] : List Int), ∀ m ∈ ([0, 1, 2, 3, 4, 5, 6, 7, 8, 9, 10, 11, 12, 13, 14, 15] : List Int), enc28 d m = 17920 + d / 8 * 128 + m * 8 + d % 8 := by decide +kernel
  exact all d (by simpa using hd2) m (by simpa using hm2)
theorem far_mk {s j k x y : Int} (hs : s = 0 ∨ s = 1) (hj : j = 0 ∨ j = 1) (hk : k = 0 ∨ k = 1) (hx : 0 ≤ x) (hx' : x < 1024) (hy : 0 ≤ y) (hy' : y < 2048) :
    farS (61440 + s * 1024 + x) (53248 + j * 8192 + k * 2048 + y) = nx j s * 8388608 + nx k s * 4194304 + x * 4096 + y * 2 - s * 16777216 := by
  unfold farS
  have e1 : (61440 + s * 1024 + x) / 1024 % 2 = s := by omega
  have e2 : (61440 + s * 1024 + x) % 1024 = x := by omega
  have e3 : (53248 + j * 8192 + k * 2048 + y) / 8192 % 2 = j := by rcases hj with rfl | rfl <;> rcases hk with rfl | rfl <;> omega
  have e4 : (53248 + j * 8192 + k * 2048 + y) / 2048 % 2 = k := by rcases hj with rfl | rfl <;> rcases hk with rfl | rfl <;> omega
  have e5 : (53248 + j * 8192 + k * 2048 + y) % 2048 = y := by rcases hj with rfl | rfl <;> rcases hk with rfl | rfl <;> omega
  rw [e1, e2, e3, e4, e5]
theorem long_mk {s j k x y n : Int} (hs : s = 0 ∨ s = 1) (hj : j = 0 ∨ j = 1) (hk : k = 0 ∨ k = 1) (hx : 0 ≤ x) (hx' : x < 1024) (hy : 0 ≤ y) (hy' : y < 2048) (hn : n = j * 8388608 + k * 4194304 + x * 4096 + y * 2 - s * 16777216) :
    longA n = 61440 + s * 1024 + x ∧ longB n = 53248 + nx j s * 8192 + nx k s * 2048 + y := by
  have e1 : longS n = s := by
    unfold longS
    rcases hs with rfl | rfl
    · rw [if_neg]; rcases hj with rfl | rfl <;> rcases hk with rfl | rfl <;> omega
    · rw [if_pos]; rcases hj with rfl | rfl <;> rcases hk with rfl | rfl <;> omega
  have e2 : n / 4096 % 1024 = x := by rcases hs with rfl | rfl <;> rcases hj with rfl | rfl <;> rcases hk with rfl | rfl <;> omega
  have e3 : n / 8388608 % 2 = j := by rcases hs with rfl | rfl <;> rcases hj with rfl | rfl <;> rcases hk with rfl | rfl <;> omega
  have e4 : n / 4194304 % 2 = k := by rcases hs with rfl | rfl <;> rcases hj with rfl | rfl <;> rcases hk with rfl | rfl <;> omega
  have e5 : n / 2 % 2048 = y := by rcases hs with rfl | rfl <;> rcases hj with rfl | rfl <;> rcases hk with rfl | rfl <;> omega
  rw [longA_eq, longB_eq, e1, e2, e3, e4, e5]
  exact ⟨rfl, rfl⟩
/-- a number, its parts -/
theorem parts_of (n : Int) (h0 : -16777216 ≤ n) (h1 : n ≤ 16777214) (h2 : n % 2 = 0) : ∃ s j k x y : Int, (s = 0 ∨ s = 1) ∧ (j = 0 ∨ j = 1) ∧ (k = 0 ∨ k = 1) ∧ 0 ≤ x ∧ x < 1024 ∧ 0 ≤ y ∧ y < 2048 ∧ n = j * 8388608 + k * 4194304 + x * 4096 + y * 2 - s * 16777216 := by
  obtain ⟨t, ht⟩ : ∃ t, n = 2 * t := ⟨n / 2, by omega⟩
  refine ⟨-(t / 2048 / 1024 / 2 / 2), t / 2048 / 1024 / 2 % 2, t / 2048 / 1024 % 2, t / 2048 % 1024, t % 2048, ?_, m2 _, m2 _, by omega, by omega, by omega, by omega, ?_⟩
  · clear h2; omega
  · clear h0 h1 h2; subst ht; omega
/-- there and back -/
theorem far_long (n : Int) (h0 : -16777216 ≤ n) (h1 : n ≤ 16777214) (h2 : n % 2 = 0) : farS (longA n) (longB n) = n := by
  obtain ⟨s, j, k, x, y, hs, hj, hk, hx, hx', hy, hy', hn⟩ := parts_of n h0 h1 h2
  obtain ⟨e1, e2⟩ := long_mk hs hj hk hx hx' hy hy' hn
  rw [e1, e2, far_mk hs (nx_bit hj hs).1 (nx_bit hk hs).1 hx hx' hy hy', (nx_bit hj hs).2, (nx_bit hk hs).2, ← hn]
theorem long_far (a b : Int) (h0 : a / 2048 = 30) (h1 : b / 16384 = 3) (h2 : b / 4096 % 2 = 1) : longA (farS a b) = a ∧ longB (farS a b) = b ∧ -16777216 ≤ farS a b ∧ farS a b ≤ 16777214 ∧ farS a b % 2 = 0 := by
  obtain ⟨s, x, hs, hx, hx', ha⟩ : ∃ s x : Int, (s = 0 ∨ s = 1) ∧ 0 ≤ x ∧ x < 1024 ∧ a = 61440 + s * 1024 + x := ⟨a / 1024 % 2, a % 1024, m2 _, by omega, by omega, by omega⟩
  obtain ⟨j, k, y, hj, hk, hy, hy', hb⟩ : ∃ j k y : Int, (j = 0 ∨ j = 1) ∧ (k = 0 ∨ k = 1) ∧ 0 ≤ y ∧ y < 2048 ∧ b = 53248 + j * 8192 + k * 2048 + y := ⟨b / 8192 % 2, b / 2048 % 2, b % 2048, m2 _, m2 _, by omega, by omega, by omega⟩
  have hn : farS a b = nx j s * 8388608 + nx k s * 4194304 + x * 4096 + y * 2 - s * 16777216 := by rw [ha, hb]; exact far_mk hs hj hk hx hx' hy hy'
  obtain ⟨e1, e2⟩ := long_mk hs (nx_bit hj hs).1 (nx_bit hk hs).1 hx hx' hy hy' hn
  rw [(nx_bit hj hs).2, (nx_bit hk hs).2, ← hb] at e2
  refine ⟨e1.trans ha.symm, e2, ?_⟩
  have n1 := (nx_bit hj hs).1
  have n2 := (nx_bit hk hs).1
  generalize nx j s = u at *
  generalize nx k s = v at *
  rw [hn]
  clear e1 e2 hn ha hb h0 h1 h2
  omega
end Go.Proofs.Th
namespace Go.Proofs.Th
open Go.RowKit Go.Proofs.On
def movI (a : Int) : Ins := ⟨28, a / 128 % 2 * 8 + a % 8, 0, a / 8 % 16, 0, 0⟩
def Zi : Ins := ⟨0, 0, 0, 0, 0, 0⟩
def decS : List Int → Ins × Int × Int
  | [] => (⟨0, 0, 0, 0, 0, 0⟩, 0, 7)
  | a :: t =>
    if a / 2048 = 30 then
      match t with
      | [] => (⟨0, 0, 0, 0, 0, 0⟩, 0, 7)
      | b :: _ => if bits .and .u16 b 53248 = 53248 then (⟨43, 0, 0, 0, farS a b, 0⟩, 2, 0) else (⟨0, 0, 0, 0, 0, 0⟩, 0, 8)
    else if a / 256 = 70 then (if rightS (movI a) then (movI a, 1, 0) else (⟨0, 0, 0, 0, 0, 0⟩, 0, 8))
    else match rowOf (opS a) with
      | none => (⟨0, 0, 0, 0, 0, 0⟩, 0, 8)
      | some (b, l) => if ((readUp (opS a) a l l.length).2 == b) && rightS (readUp (opS a) a l l.length).1 then ((readUp (opS a) a l l.length).1, 1, 0) else (⟨0, 0, 0, 0, 0, 0⟩, 0, 8)
end Go.Proofs.Th
