/- MERGED by mergev.py: XTe8 XTe6 XTe7. -/
import Derived.Test.YtpihjhfaeloapaaTb1
import Derived.Test.YtpihjhfaeloapaaTb2
import Derived.Test.YtpihjhfaeloapaaTb3
import Derived.Test.YtpihjhfaeloapaaTb4
import Derived.Test.YtpihjhfaeloapaaTb5
import Derived.Test.YtpihjhfaeloapaaVe
import Derived.BigGuardPart
import Derived.Test.YtpihjhfaeloapaaTe3
import Derived.Test.YtpihjhfaeloapaaVd
namespace Go.Proofs.Th
open Go.RowKit Go.Proofs.On
theorem right28_iff {d n m imm cond : Int} (h : rightS ⟨28, d, n, m, imm, cond⟩ = true) : n = 0 ∧ imm = 0 ∧ cond = 0 ∧ 0 ≤ d ∧ d < 15 ∧ 0 ≤ m ∧ m < 15 := by
  simp [rightS] at h; omega
theorem right43_iff {d n m imm cond : Int} (h : rightS ⟨43, d, n, m, imm, cond⟩ = true) : d = 0 ∧ n = 0 ∧ m = 0 ∧ cond = 0 ∧ -16777216 ≤ imm ∧ imm ≤ 16777214 ∧ imm % 2 = 0 := by
  simp [rightS] at h
  obtain ⟨⟨⟨⟨⟨⟨h1, h2⟩, h3⟩, h4⟩, h5⟩, h6⟩, h7⟩ := h
  exact ⟨h1, h2, h3, h4, h5, h6, by have := Int.dvd_of_tmod_eq_zero h7; omega⟩
theorem long_range (n : Int) (h0 : -16777216 ≤ n) (h1 : n ≤ 16777214) (h2 : n % 2 = 0) : longA n / 2048 = 30 ∧ longB n / 16384 = 3 ∧ longB n / 4096 % 2 = 1 ∧ 0 ≤ longA n ∧ longA n < 65536 ∧ 0 ≤ longB n ∧ longB n < 65536 := by
  obtain ⟨s, j, k, x, y, hs, hj, hk, hx, hx', hy, hy', hn⟩ := parts_of n h0 h1 h2
  obtain ⟨e1, e2⟩ := long_mk hs hj hk hx hx' hy hy' hn
  have n1 := (nx_bit hj hs).1
  have n2 := (nx_bit hk hs).1
  rw [e1, e2]
  clear e1 e2 hn
  generalize nx j s = u at *
  generalize nx k s = v at *
  rcases n1 with rfl | rfl <;> rcases n2 with rfl | rfl <;> omega
theorem back_all (i : Ins) (h28 : i.op ≠ 28) (h43 : i.op ≠ 43) (hr : rightS i = true) : back1 i = true := by
  refine back_of ?_ h28 h43 hr
  by_cases e1 : i.op = 1
  · rw [e1]; exact backAll_1
  by_cases e2 : i.op = 2
  · rw [e2]; exact backAll_2
  by_cases e3 : i.op = 3
  · rw [e3]; exact backAll_3
  by_cases e4 : i.op = 4
  · rw [e4]; exact backAll_4
  by_cases e5 : i.op = 5
  · rw [e5]; exact backAll_5
  by_cases e6 : i.op = 6
  · rw [e6]; exact backAll_6
  by_cases e7 : i.op = 7
  · rw [e7]; exact backAll_7
  by_cases e8 : i.op = 8
  · rw [e8]; exact backAll_8
  by_cases e9 : i.op = 9
  · rw [e9]; exact backAll_9
  by_cases e10 : i.op = 10
  · rw [e10]; exact backAll_10
  by_cases e11 : i.op = 11
  · rw [e11]; exact backAll_11
  by_cases e12 : i.op = 12
  · rw [e12]; exact backAll_12
  by_cases e13 : i.op = 13
  · rw [e13]; exact backAll_13
  by_cases e14 : i.op = 14
  · rw [e14]; exact backAll_14
  by_cases e15 : i.op = 15
  · rw [e15]; exact backAll_15
  by_cases e16 : i.op = 16
  · rw [e16]; exact backAll_16
  by_cases e17 : i.op = 17
  · rw [e17]; exact backAll_17
  by_cases e18 : i.op = 18
  · rw [e18]; exact backAll_18
  by_cases e19 : i.op = 19
  · rw [e19]; exact backAll_19
  by_cases e20 : i.op = 20
  · rw [e20]; exact backAll_20
  by_cases e21 : i.op = 21
  · rw [e21]; exact backAll_21
  by_cases e22 : i.op = 22
  · rw [e22]; exact backAll_22
  by_cases e23 : i.op = 23
  · rw [e23]; exact backAll_23
  by_cases e24 : i.op = 24
  · rw [e24]; exact backAll_24
  by_cases e25 : i.op = 25
  · rw [e25]; exact backAll_25
  by_cases e26 : i.op = 26
  · rw [e26]; exact backAll_26
  by_cases e27 : i.op = 27
  · rw [e27]; exact backAll_27
  by_cases e29 : i.op = 29
  · rw [e29]; exact backAll_29
  by_cases e30 : i.op = 30
  · rw [e30]; exact backAll_30
  by_cases e31 : i.op = 31
  · rw [e31]; exact backAll_31
  by_cases e32 : i.op = 32
  · rw [e32]; exact backAll_32
  by_cases e33 : i.op = 33
  · rw [e33]; exact backAll_33
  by_cases e34 : i.op = 34
  · rw [e34]; exact backAll_34
  by_cases e35 : i.op = 35
  · rw [e35]; exact backAll_35
  by_cases e36 : i.op = 36
  · rw [e36]; exact backAll_36
  by_cases e37 : i.op = 37
  · rw [e37]; exact backAll_37
  by_cases e38 : i.op = 38
  · rw [e38]; exact backAll_38
  by_cases e39 : i.op = 39
  · rw [e39]; exact backAll_39
  by_cases e40 : i.op = 40
  · rw [e40]; exact backAll_40
  by_cases e41 : i.op = 41
  · rw [e41]; exact backAll_41
  by_cases e42 : i.op = 42
  · rw [e42]; exact backAll_42
  by_cases e44 : i.op = 44
  · rw [e44]; exact backAll_44
  by_cases e45 : i.op = 45
  · rw [e45]; exact backAll_45
  have hA : ¬ (12 ≤ i.op ∧ i.op ≤ 27) := by omega
  have hM : ¬ (8 ≤ i.op ∧ i.op ≤ 11) := by omega
  have hn : rowOf i.op = none := by simp [rowOf, hA, hM, e1, e2, e3, e4, e5, e6, e7, e29, e30, e31, e32, e33, e34, e35, e36, e37, e38, e39, e40, e41, e42, e44, e45]
  unfold backAll
  rw [hn]
/-- the halfwords of an instruction that may be -/
theorem enc_range (i : Ins) (h : rightS i = true) : (∀ x ∈ encL i, 0 ≤ x ∧ x < 65536) ∧ ((encL i).length = 1 ∧ i.op ≠ 43 ∨ (encL i).length = 2 ∧ i.op = 43) := by
  by_cases h28 : i.op = 28
  · obtain ⟨op, d, n, m, imm, cond⟩ := i
    dsimp only at h28
    subst h28
    obtain ⟨rfl, rfl, rfl, r1, r2, r3, r4⟩ := right28_iff h
    unfold encL
    rw [if_pos rfl]
    dsimp only
    rw [enc28_eq d m r1 (by omega) r3 (by omega)]
    exact ⟨by simp; omega, .inl ⟨rfl, by decide⟩⟩
  by_cases h43 : i.op = 43
  · obtain ⟨op, d, n, m, imm, cond⟩ := i
    dsimp only at h43
    subst h43
    obtain ⟨rfl, rfl, rfl, rfl, r1, r2, r3⟩ := right43_iff h
    have := long_range imm r1 r2 r3
    unfold encL
    rw [if_neg h28, if_pos rfl]
    exact ⟨by simp; omega, .inr ⟨rfl, rfl⟩⟩
  · have hb := back_all i h28 h43 h
    unfold back1 at hb
    split at hb
    · rename_i x hx
      rw [hx]
      simp only [Bool.and_eq_true] at hb
      obtain ⟨⟨⟨⟨⟨b1, b2⟩, _⟩, _⟩, _⟩, _⟩ := hb
      simp at b1 b2
      exact ⟨by simp; omega, .inl ⟨rfl, h43⟩⟩
    · cases hb
end Go.Proofs.Th
namespace Go.Proofs.Ytpihjhfaeloapaa
open Go.RowKit On Th
theorem u32_wraps (n : Int) (h0 : 0 ≤ n) (h1 : n < 2 ^ 32) : IntKind.u32.wrap n = n := by rw [IntKind.wrap_u32']; omega
theorem u32_join (i : Nat) {x y : Int} (h0 : 0 ≤ x) (h1 : x % 2 ^ i = 0) (h2 : x < 2 ^ 32) (h3 : 0 ≤ y) (h4 : y < 2 ^ i) (h5 : y < 2 ^ 32) : bits .or .u32 x y = x + y := bits_join .u32 32 (by decide) u32_wraps i x y h0 h1 h2 h3 h4 h5
theorem u32_maskP (i : Nat) (hi : i ≤ 32) (x : Int) (h0 : 0 ≤ x) (h1 : x < 2 ^ 32) : bits .and .u32 x (2 ^ i - 1) = x % 2 ^ i := bits_mask .u32 32 (by decide) u32_wraps i hi x h0 h1
theorem u32_m1 {x : Int} (h0 : 0 ≤ x) (h1 : x < 4294967296) : bits .and .u32 x 1 = x % 2 := u32_maskP 1 (by decide) x h0 h1
theorem u32_m1023 {x : Int} (h0 : 0 ≤ x) (h1 : x < 4294967296) : bits .and .u32 x 1023 = x % 1024 := u32_maskP 10 (by decide) x h0 h1
theorem u32_m2047 {x : Int} (h0 : 0 ≤ x) (h1 : x < 4294967296) : bits .and .u32 x 2047 = x % 2048 := u32_maskP 11 (by decide) x h0 h1
theorem refA {s x : Int} (hs : s = 0 ∨ s = 1) (hx : 0 ≤ x) (hx' : x < 1024) : IntKind.u16.wrap (bits .or .u32 (bits .or .u32 61440 (s * 1024 % 4294967296)) x) = 61440 + s * 1024 + x := by
  have e1 : bits .or .u32 61440 (s * 1024 % 4294967296) = 61440 + s * 1024 := by rcases hs with rfl | rfl <;> decide +kernel
  rw [e1]
  have j : bits .or .u32 (61440 + s * 1024) x = 61440 + s * 1024 + x := by
    rcases hs with rfl | rfl <;> exact u32_join 10 (by decide) (by decide) (by decide) hx (by omega) (by omega)
  rw [j, IntKind.wrap_u16]
  omega
theorem refB {s j k y : Int} (hs : s = 0 ∨ s = 1) (hj : j = 0 ∨ j = 1) (hk : k = 0 ∨ k = 1) (hy : 0 ≤ y) (hy' : y < 2048) :
    IntKind.u16.wrap (bits .or .u32 (bits .or .u32 (bits .or .u32 53248 ((1 - bits .xor .u32 j s) % 4294967296 * 8192 % 4294967296)) ((1 - bits .xor .u32 k s) % 4294967296 * 2048 % 4294967296)) y) = 53248 + nx j s * 8192 + nx k s * 2048 + y := by
  have e1 : bits .or .u32 (bits .or .u32 53248 ((1 - bits .xor .u32 j s) % 4294967296 * 8192 % 4294967296)) ((1 - bits .xor .u32 k s) % 4294967296 * 2048 % 4294967296) = 53248 + nx j s * 8192 + nx k s * 2048 := by
    rcases hs with rfl | rfl <;> rcases hj with rfl | rfl <;> rcases hk with rfl | rfl <;> decide +kernel
  rw [e1]
  have n1 := (nx_bit hj hs).1
  have n2 := (nx_bit hk hs).1
  generalize nx j s = u at *
  generalize nx k s = v at *
  have j : bits .or .u32 (53248 + u * 8192 + v * 2048) y = 53248 + u * 8192 + v * 2048 + y := by
    rcases n1 with rfl | rfl <;> rcases n2 with rfl | rfl <;> exact u32_join 11 (by decide) (by decide) (by decide) hy (by omega) (by omega)
  rw [j, IntKind.wrap_u16]
  omega
theorem refBl (imm : Int) (h0 : -16777216 ≤ imm) (h1 : imm ≤ 16777214) (h2 : imm % 2 = 0) :
    IntKind.u16.wrap (bits .or .u32 (bits .or .u32 61440 (bits .and .u32 (wrap32 imm % 4294967296 / 16777216) 1 * 1024 % 4294967296)) (bits .and .u32 (wrap32 imm % 4294967296 / 4096) 1023)) = longA imm ∧
    IntKind.u16.wrap (bits .or .u32 (bits .or .u32 (bits .or .u32 53248 ((1 - bits .xor .u32 (bits .and .u32 (wrap32 imm % 4294967296 / 8388608) 1) (bits .and .u32 (wrap32 imm % 4294967296 / 16777216) 1)) % 4294967296 * 8192 % 4294967296)) ((1 - bits .xor .u32 (bits .and .u32 (wrap32 imm % 4294967296 / 4194304) 1) (bits .and .u32 (wrap32 imm % 4294967296 / 16777216) 1)) % 4294967296 * 2048 % 4294967296)) (bits .and .u32 (wrap32 imm % 4294967296 / 2) 2047)) = longB imm := by
  obtain ⟨s, j, k, x, y, hs, hj, hk, hx, hx', hy, hy', hn⟩ := parts_of imm h0 h1 h2
  obtain ⟨l1, l2⟩ := long_mk hs hj hk hx hx' hy hy' hn
  have hu : wrap32 imm % 4294967296 = imm + s * 4294967296 := by
    unfold wrap32
    rcases hs with rfl | rfl
    · have : 0 ≤ imm := by rcases hj with rfl | rfl <;> rcases hk with rfl | rfl <;> omega
      omega
    · have : imm < 0 := by rcases hj with rfl | rfl <;> rcases hk with rfl | rfl <;> omega
      omega
  have e1 : (imm + s * 4294967296) / 16777216 % 2 = s := by rcases hs with rfl | rfl <;> rcases hj with rfl | rfl <;> rcases hk with rfl | rfl <;> omega
  have e2 : (imm + s * 4294967296) / 4096 % 1024 = x := by rcases hs with rfl | rfl <;> rcases hj with rfl | rfl <;> rcases hk with rfl | rfl <;> omega
  have e3 : (imm + s * 4294967296) / 8388608 % 2 = j := by rcases hs with rfl | rfl <;> rcases hj with rfl | rfl <;> rcases hk with rfl | rfl <;> omega
  have e4 : (imm + s * 4294967296) / 4194304 % 2 = k := by rcases hs with rfl | rfl <;> rcases hj with rfl | rfl <;> rcases hk with rfl | rfl <;> omega
  have e5 : (imm + s * 4294967296) / 2 % 2048 = y := by rcases hs with rfl | rfl <;> rcases hj with rfl | rfl <;> rcases hk with rfl | rfl <;> omega
  have r0 : 0 ≤ imm + s * 4294967296 := by rw [← hu]; omega
  have r1 : imm + s * 4294967296 < 4294967296 := by rw [← hu]; omega
  rw [hu]
  generalize imm + s * 4294967296 = u at *
  rw [u32_m1 (x := u / 16777216) (by omega) (by omega), u32_m1023 (x := u / 4096) (by omega) (by omega), u32_m1 (x := u / 8388608) (by omega) (by omega), u32_m1 (x := u / 4194304) (by omega) (by omega), u32_m2047 (x := u / 2) (by omega) (by omega), e1, e2, e3, e4, e5, l1, l2]
  exact ⟨refA hs hx hx', refB hs hj hk hy hy'⟩
set_option maxHeartbeats 4000000 in
set_option maxRecDepth 100000 in
theorem refEnc_43 (d n m imm cond : Int) (w : World) (hr : rightS ⟨43, d, n, m, imm, cond⟩ = true) : Calls Try.prog 16 #[.agg #[.int .i64 43, .int .i64 d, .int .i64 n, .int .i64 m, .int .i64 imm, .int .i64 cond]] w fun e w' => ∃ g, e = .returned (.slice (some ⟨g, 0, none⟩) 2 2) ∧ Blk w' g 79 #[.int .u16 (longA imm), .int .u16 (longB imm)] ∧ Below w.heap.size w w' := by
  obtain ⟨_, _, _, _, h0, h1, h2⟩ := right43_iff hr
  obtain ⟨k1, k2⟩ := refBl imm h0 h1 h2
  rw [← k1, ← k2]
  clear k1 k2 h0 h1 h2 hr
  go_enter Try.func16, Try.ntmps16
  go_wp2_with fail
  go_ret
  exact ⟨_, rfl, Blk.new' _ _ _ _ (by simp only [World.size_alloc]), ((Below.refl _ _).alloc (Nat.le_refl _) _).alloc (by simp) _⟩
set_option maxHeartbeats 4000000 in
set_option maxRecDepth 100000 in
theorem refEnc_28 (d n m imm cond : Int) (w : World) : Calls Try.prog 16 #[.agg #[.int .i64 28, .int .i64 d, .int .i64 n, .int .i64 m, .int .i64 imm, .int .i64 cond]] w (RefEnc ⟨28, d, n, m, imm, cond⟩ w) := by
  go_enter Try.func16, Try.ntmps16
  go_wp2_with (first | (go_at_call 31; refine (one_c _ _).mono ?_; rintro e w' ⟨rfl, rfl⟩))
  go_ret
  refine ⟨_, ⟨_, rfl, Blk.new' _ _ _ _ (by simp only [World.size_alloc]), ((Below.refl _ _).alloc (Nat.le_refl _) _).alloc (by simp) _⟩, fun hr => ?_⟩
  obtain ⟨rfl, rfl, rfl, r1, r2, r3, r4⟩ := right28_iff hr
  have e : encL ⟨28, d, 0, m, 0, 0⟩ = [enc28 d m] := by unfold encL; rw [if_pos rfl]
  rw [e]
  have hd2 : d = 0 ∨ d = 1 ∨ d = 2 ∨ d = 3 ∨ d = 4 ∨ d = 5 ∨ d = 6 ∨ d = 7 ∨ d = 8 ∨ d = 9 ∨ d = 10 ∨ d = 11 ∨ d = 12 ∨ d = 13 ∨ d = 14 := by omega
  have hm2 : m = 0 ∨ m = 1 ∨ m = 2 ∨ m = 3 ∨ m = 4 ∨ m = 5 ∨ m = 6 ∨ m = 7 ∨ m = 8 ∨ m = 9 ∨ m = 10 ∨ m = 11 ∨ m = 12 ∨ m = 13 ∨ m = 14 := by omega
  have all : ∀ d ∈ ([0, 1, 2, 3, 4, 5, 6, 7, 8, 9, 10, 11, 12, 13, 14] : List Int), ∀ m ∈ ([0, 1, 2, 3, 4, 5, 6, 7, 8, 9, 10, 11, 12, 13, 14] : List Int), enc28 d m = bits .or .u16 (bits .or .u16 (bits .or .u16 17920 (IntKind.u16.wrap (IntKind.u16.wrap d / 8 * 128))) (IntKind.u16.wrap (IntKind.u16.wrap m * 8))) ((IntKind.u16.wrap d).tmod 8) := by decide +kernel
  rw [all d (by simpa using hd2) m (by simpa using hm2)]
end Go.Proofs.Ytpihjhfaeloapaa
namespace Go.Proofs.Ytpihjhfaeloapaa
open Go.RowKit On Th
theorem refEncode_c (i : Ins) (hr : rightS i = true) (w : World) : Calls Try.prog 16 #[.agg #[.int .i64 i.op, .int .i64 i.d, .int .i64 i.n, .int .i64 i.m, .int .i64 i.imm, .int .i64 i.cond]] w fun e w' => ∃ s, e = .returned s ∧ Hw w' s (encL i) ∧ Below w.heap.size w w' := by
  have er := (enc_range i hr).1
  obtain ⟨op, d, n, m, imm, cond⟩ := i
  have one : ∀ {e : Ending} {w' : World}, RefEnc ⟨op, d, n, m, imm, cond⟩ w e w' → ∃ s, e = .returned s ∧ Hw w' s (encL ⟨op, d, n, m, imm, cond⟩) ∧ Below w.heap.size w w' := by
    rintro e w' ⟨x, ⟨g, h1, h2, h3⟩, h4⟩
    have h4 := h4 hr
    rw [h4] at er ⊢
    obtain ⟨r1, r2⟩ := er x (List.mem_singleton.mpr rfl)
    refine ⟨_, h1, ⟨_, 1, rfl, fun k y hy => ?_⟩, h3⟩
    cases k with
    | zero => simp at hy; subst hy; exact ⟨r1, r2, g, 0, rfl, h2.cell 0⟩
    | succ k => simp at hy
  by_cases e43 : op = 43
  · subst e43
    refine (refEnc_43 d n m imm cond w hr).mono ?_
    rintro e w' ⟨g, h1, h2, h3⟩
    have e : encL ⟨43, d, n, m, imm, cond⟩ = [longA imm, longB imm] := by unfold encL; rw [if_neg (show ¬ (43 : Int) = 28 by decide), if_pos rfl]
    rw [e] at er ⊢
    obtain ⟨r1, r2⟩ := er (longA imm) (by simp)
    obtain ⟨r3, r4⟩ := er (longB imm) (by simp)
    refine ⟨_, h1, ⟨_, 2, rfl, fun k y hy => ?_⟩, h3⟩
    match k, hy with
    | 0, hy => simp at hy; subst hy; exact ⟨r1, r2, g, 0, rfl, h2.cell 0⟩
    | 1, hy => simp at hy; subst hy; exact ⟨r3, r4, g, 0, rfl, h2.cell 1⟩
    | k + 2, hy => simp at hy
  by_cases e28 : op = 28
  · subst e28; exact (refEnc_28 d n m imm cond w).mono fun e w' h => one h
  by_cases e1 : op = 1
  · subst e1; exact (refEnc_1 d n m imm cond w).mono fun e w' h => one h
  by_cases e2 : op = 2
  · subst e2; exact (refEnc_2 d n m imm cond w).mono fun e w' h => one h
  by_cases e3 : op = 3
  · subst e3; exact (refEnc_3 d n m imm cond w).mono fun e w' h => one h
  by_cases e4 : op = 4
  · subst e4; exact (refEnc_4 d n m imm cond w).mono fun e w' h => one h
  by_cases e5 : op = 5
  · subst e5; exact (refEnc_5 d n m imm cond w).mono fun e w' h => one h
  by_cases e6 : op = 6
  · subst e6; exact (refEnc_6 d n m imm cond w).mono fun e w' h => one h
  by_cases e7 : op = 7
  · subst e7; exact (refEnc_7 d n m imm cond w).mono fun e w' h => one h
  by_cases e8 : op = 8
  · subst e8; exact (refEnc_8 d n m imm cond w).mono fun e w' h => one h
  by_cases e9 : op = 9
  · subst e9; exact (refEnc_9 d n m imm cond w).mono fun e w' h => one h
  by_cases e10 : op = 10
  · subst e10; exact (refEnc_10 d n m imm cond w).mono fun e w' h => one h
  by_cases e11 : op = 11
  · subst e11; exact (refEnc_11 d n m imm cond w).mono fun e w' h => one h
  by_cases e12 : op = 12
  · subst e12; exact (refEnc_12 d n m imm cond w).mono fun e w' h => one h
  by_cases e13 : op = 13
  · subst e13; exact (refEnc_13 d n m imm cond w).mono fun e w' h => one h
  by_cases e14 : op = 14
  · subst e14; exact (refEnc_14 d n m imm cond w).mono fun e w' h => one h
  by_cases e15 : op = 15
  · subst e15; exact (refEnc_15 d n m imm cond w).mono fun e w' h => one h
  by_cases e16 : op = 16
  · subst e16; exact (refEnc_16 d n m imm cond w).mono fun e w' h => one h
  by_cases e17 : op = 17
  · subst e17; exact (refEnc_17 d n m imm cond w).mono fun e w' h => one h
  by_cases e18 : op = 18
  · subst e18; exact (refEnc_18 d n m imm cond w).mono fun e w' h => one h
  by_cases e19 : op = 19
  · subst e19; exact (refEnc_19 d n m imm cond w).mono fun e w' h => one h
  by_cases e20 : op = 20
  · subst e20; exact (refEnc_20 d n m imm cond w).mono fun e w' h => one h
  by_cases e21 : op = 21
  · subst e21; exact (refEnc_21 d n m imm cond w).mono fun e w' h => one h
  by_cases e22 : op = 22
  · subst e22; exact (refEnc_22 d n m imm cond w).mono fun e w' h => one h
  by_cases e23 : op = 23
  · subst e23; exact (refEnc_23 d n m imm cond w).mono fun e w' h => one h
  by_cases e24 : op = 24
  · subst e24; exact (refEnc_24 d n m imm cond w).mono fun e w' h => one h
  by_cases e25 : op = 25
  · subst e25; exact (refEnc_25 d n m imm cond w).mono fun e w' h => one h
  by_cases e26 : op = 26
  · subst e26; exact (refEnc_26 d n m imm cond w).mono fun e w' h => one h
  by_cases e27 : op = 27
  · subst e27; exact (refEnc_27 d n m imm cond w).mono fun e w' h => one h
  by_cases e29 : op = 29
  · subst e29; exact (refEnc_29 d n m imm cond w).mono fun e w' h => one h
  by_cases e30 : op = 30
  · subst e30; exact (refEnc_30 d n m imm cond w).mono fun e w' h => one h
  by_cases e31 : op = 31
  · subst e31; exact (refEnc_31 d n m imm cond w).mono fun e w' h => one h
  by_cases e32 : op = 32
  · subst e32; exact (refEnc_32 d n m imm cond w).mono fun e w' h => one h
  by_cases e33 : op = 33
  · subst e33; exact (refEnc_33 d n m imm cond w).mono fun e w' h => one h
  by_cases e34 : op = 34
  · subst e34; exact (refEnc_34 d n m imm cond w).mono fun e w' h => one h
  by_cases e35 : op = 35
  · subst e35; exact (refEnc_35 d n m imm cond w).mono fun e w' h => one h
  by_cases e36 : op = 36
  · subst e36; exact (refEnc_36 d n m imm cond w).mono fun e w' h => one h
  by_cases e37 : op = 37
  · subst e37; exact (refEnc_37 d n m imm cond w).mono fun e w' h => one h
  by_cases e38 : op = 38
  · subst e38; exact (refEnc_38 d n m imm cond w).mono fun e w' h => one h
  by_cases e39 : op = 39
  · subst e39; exact (refEnc_39 d n m imm cond w).mono fun e w' h => one h
  by_cases e40 : op = 40
  · subst e40; exact (refEnc_40 d n m imm cond w).mono fun e w' h => one h
  by_cases e41 : op = 41
  · subst e41; exact (refEnc_41 d n m imm cond w).mono fun e w' h => one h
  by_cases e42 : op = 42
  · subst e42; exact (refEnc_42 d n m imm cond w).mono fun e w' h => one h
  by_cases e44 : op = 44
  · subst e44; exact (refEnc_44 d n m imm cond w).mono fun e w' h => one h
  by_cases e45 : op = 45
  · subst e45; exact (refEnc_45 d n m imm cond w).mono fun e w' h => one h
  have hA : ¬ (12 ≤ op ∧ op ≤ 27) := by omega
  have hM : ¬ (8 ≤ op ∧ op ≤ 11) := by omega
  have hn : rowOf op = none := by simp [rowOf, hA, hM, e1, e2, e3, e4, e5, e6, e7, e29, e30, e31, e32, e33, e34, e35, e36, e37, e38, e39, e40, e41, e42, e44, e45]
  unfold rightS at hr
  rw [if_neg e28, if_neg e43] at hr
  dsimp only at hr
  rw [hn] at hr
  cases hr
end Go.Proofs.Ytpihjhfaeloapaa
