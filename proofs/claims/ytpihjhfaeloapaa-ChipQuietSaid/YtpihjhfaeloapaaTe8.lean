/- Thumb: the halfwords of an instruction that may be: plain. No program in sight. -/
import Derived.Test.YtpihjhfaeloapaaTb1
import Derived.Test.YtpihjhfaeloapaaTb2
import Derived.Test.YtpihjhfaeloapaaTb3
import Derived.Test.YtpihjhfaeloapaaTb4
import Derived.Test.YtpihjhfaeloapaaTb5
namespace Go.Proofs.Th
open Go.RowKit Go.Proofs.On
theorem right28_iff {d n m imm cond : Int} (h : rightS ⟨28, d, n, m, imm, cond⟩ = true) : n = 0 ∧ imm = 0 ∧ cond = 0 ∧ 0 ≤ d ∧ d < 15 ∧ 0 ≤ m ∧ m < 15 := by
  simp [rightS] at h; omega
theorem right43_iff {d n m imm cond : Int} (h : rightS ⟨43, d, n, m, imm, cond⟩ = true) : d = 0 ∧ n = 0 ∧ m = 0 ∧ cond = 0 ∧ -16777216 ≤ imm ∧ imm ≤ 16777214 ∧ imm % 2 = 0 := by
  simp [rightS] at h
  obtain ⟨⟨⟨⟨⟨⟨h1, h2⟩, h3⟩, h4⟩, h5⟩, h6⟩, h7⟩ := h
  exact ⟨h1, h2, h3, h4, h5, h6, by have := Int.dvd_of_tmod_eq_zero h7; omega⟩
theorem long_range (n : Int) (h0 : -16777216 ≤ n) (h1 : n ≤ 16777214) (h2 : n % 2 = 0) : longA n / 2048 = 30 ∧ longB n / 16384 = 3 ∧ longB n / 4096 % 2 = 1 ∧ 0 ≤ longA n ∧ longA n < 65536 ∧ 0 ≤ longB n ∧ longB n < 65536 := by
  obtain ⟨s, j, k, x, y, hs, hj, hk, hx, hx', hy, hy', hn⟩ := parts_of n h0 h1 h2
  obtain ⟨e1, e2⟩ := long_mk hs hj hk hx hx' hy hy' hn
  have n1 := (nx_bit hj hs).1
  have n2 := (nx_bit hk hs).1
  rw [e1, e2]
  clear e1 e2 hn
  generalize nx j s = u at *
  generalize nx k s = v at *
  rcases n1 with rfl | rfl <;> rcases n2 with rfl | rfl <;> omega
theorem back_all (i : Ins) (h28 : i.op ≠ 28) (h43 : i.op ≠ 43) (hr : rightS i = true) : back1 i = true := by
  refine back_of ?_ h28 h43 hr
  by_cases e1 : i.op = 1
  · rw [e1]; exact backAll_1
  by_cases e2 : i.op = 2
  · rw [e2]; exact backAll_2
  by_cases e3 : i.op = 3
  · rw [e3]; exact backAll_3
  by_cases e4 : i.op = 4
  · rw [e4]; exact backAll_4
  by_cases e5 : i.op = 5
  · rw [e5]; exact backAll_5
  by_cases e6 : i.op = 6
  · rw [e6]; exact backAll_6
  by_cases e7 : i.op = 7
  · rw [e7]; exact backAll_7
  by_cases e8 : i.op = 8
  · rw [e8]; exact backAll_8
  by_cases e9 : i.op = 9
  · rw [e9]; exact backAll_9
  by_cases e10 : i.op = 10
  · rw [e10]; exact backAll_10
  by_cases e11 : i.op = 11
  · rw [e11]; exact backAll_11
  by_cases e12 : i.op = 12
  · rw [e12]; exact backAll_12
  by_cases e13 : i.op = 13
  · rw [e13]; exact backAll_13
  by_cases e14 : i.op = 14
  · rw [e14]; exact backAll_14
  by_cases e15 : i.op = 15
  · rw [e15]; exact backAll_15
  by_cases e16 : i.op = 16
  · rw [e16]; exact backAll_16
  by_cases e17 : i.op = 17
  · rw [e17]; exact backAll_17
  by_cases e18 : i.op = 18
  · rw [e18]; exact backAll_18
  by_cases e19 : i.op = 19
  · rw [e19]; exact backAll_19
  by_cases e20 : i.op = 20
  · rw [e20]; exact backAll_20
  by_cases e21 : i.op = 21
  · rw [e21]; exact backAll_21
  by_cases e22 : i.op = 22
  · rw [e22]; exact backAll_22
  by_cases e23 : i.op = 23
  · rw [e23]; exact backAll_23
  by_cases e24 : i.op = 24
  · rw [e24]; exact backAll_24
  by_cases e25 : i.op = 25
  · rw [e25]; exact backAll_25
  by_cases e26 : i.op = 26
  · rw [e26]; exact backAll_26
  by_cases e27 : i.op = 27
  · rw [e27]; exact backAll_27
  by_cases e29 : i.op = 29
  · rw [e29]; exact backAll_29
  by_cases e30 : i.op = 30
  · rw [e30]; exact backAll_30
  by_cases e31 : i.op = 31
  · rw [e31]; exact backAll_31
  by_cases e32 : i.op = 32
  · rw [e32]; exact backAll_32
  by_cases e33 : i.op = 33
  · rw [e33]; exact backAll_33
  by_cases e34 : i.op = 34
  · rw [e34]; exact backAll_34
  by_cases e35 : i.op = 35
  · rw [e35]; exact backAll_35
  by_cases e36 : i.op = 36
  · rw [e36]; exact backAll_36
  by_cases e37 : i.op = 37
  · rw [e37]; exact backAll_37
  by_cases e38 : i.op = 38
  · rw [e38]; exact backAll_38
  by_cases e39 : i.op = 39
  · rw [e39]; exact backAll_39
  by_cases e40 : i.op = 40
  · rw [e40]; exact backAll_40
  by_cases e41 : i.op = 41
  · rw [e41]; exact backAll_41
  by_cases e42 : i.op = 42
  · rw [e42]; exact backAll_42
  by_cases e44 : i.op = 44
  · rw [e44]; exact backAll_44
  by_cases e45 : i.op = 45
  · rw [e45]; exact backAll_45
  have hA : ¬ (12 ≤ i.op ∧ i.op ≤ 27) := by omega
  have hM : ¬ (8 ≤ i.op ∧ i.op ≤ 11) := by omega
  have hn : rowOf i.op = none := by simp [rowOf, hA, hM, e1, e2, e3, e4, e5, e6, e7, e29, e30, e31, e32, e33, e34, e35, e36, e37, e38, e39, e40, e41, e42, e44, e45]
  unfold backAll
  rw [hn]
/-- the halfwords of an instruction that may be -/
theorem enc_range (i : Ins) (h : rightS i = true) : (∀ x ∈ encL i, 0 ≤ x ∧ x < 65536) ∧ ((encL i).length = 1 ∧ i.op ≠ 43 ∨ (encL i).length = 2 ∧ i.op = 43) := by
  by_cases h28 : i.op = 28
  · obtain ⟨op, d, n, m, imm, cond⟩ := i
    dsimp only at h28
    subst h28
    obtain ⟨rfl, rfl, rfl, r1, r2, r3, r4⟩ := right28_iff h
    unfold encL
    rw [if_pos rfl]
    dsimp only
    rw [enc28_eq d m r1 (by omega) r3 (by omega)]
    exact ⟨by simp; omega, .inl ⟨rfl, by decide⟩⟩
  by_cases h43 : i.op = 43
  · obtain ⟨op, d, n, m, imm, cond⟩ := i
    dsimp only at h43
    subst h43
    obtain ⟨rfl, rfl, rfl, rfl, r1, r2, r3⟩ := right43_iff h
    have := long_range imm r1 r2 r3
    unfold encL
    rw [if_neg h28, if_pos rfl]
    exact ⟨by simp; omega, .inr ⟨rfl, rfl⟩⟩
  · have hb := back_all i h28 h43 h
    unfold back1 at hb
    split at hb
    · rename_i x hx
      rw [hx]
      simp only [Bool.and_eq_true] at hb
      obtain ⟨⟨⟨⟨⟨b1, b2⟩, _⟩, _⟩, _⟩, _⟩ := hb
      simp at b1 b2
      exact ⟨by simp; omega, .inl ⟨rfl, h43⟩⟩
    · cases hb
end Go.Proofs.Th
