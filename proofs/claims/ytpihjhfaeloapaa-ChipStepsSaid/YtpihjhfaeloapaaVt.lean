/- MERGED by mergev.py: XTk4 XTk5 XTk6 XTk7 XTk XTh10. -/
import Derived.Test.YtpihjhfaeloapaaVb
import Derived.Test.YtpihjhfaeloapaaVs
import Derived.Test.YtpihjhfaeloapaaTb1
import Derived.Test.YtpihjhfaeloapaaTb2
import Derived.Test.YtpihjhfaeloapaaTb3
import Derived.Test.YtpihjhfaeloapaaTb4
import Derived.Test.YtpihjhfaeloapaaTb5
namespace Go.Proofs.Th
open Go.RowKit Go.Proofs.On
set_option maxRecDepth 100000
theorem chk_120 : ((List.range 8).all fun i => chkB (120 + i)) = true := by decide +kernel
theorem chk_128 : ((List.range 8).all fun i => chkB (128 + i)) = true := by decide +kernel
theorem chk_136 : ((List.range 8).all fun i => chkB (136 + i)) = true := by decide +kernel
theorem chk_144 : ((List.range 8).all fun i => chkB (144 + i)) = true := by decide +kernel
theorem chk_152 : ((List.range 8).all fun i => chkB (152 + i)) = true := by decide +kernel
end Go.Proofs.Th
namespace Go.Proofs.Th
open Go.RowKit Go.Proofs.On
set_option maxRecDepth 100000
theorem chk_160 : ((List.range 8).all fun i => chkB (160 + i)) = true := by decide +kernel
theorem chk_168 : ((List.range 8).all fun i => chkB (168 + i)) = true := by decide +kernel
theorem chk_176 : ((List.range 8).all fun i => chkB (176 + i)) = true := by decide +kernel
theorem chk_184 : ((List.range 8).all fun i => chkB (184 + i)) = true := by decide +kernel
theorem chk_192 : ((List.range 8).all fun i => chkB (192 + i)) = true := by decide +kernel
end Go.Proofs.Th
namespace Go.Proofs.Th
open Go.RowKit Go.Proofs.On
set_option maxRecDepth 100000
theorem chk_200 : ((List.range 8).all fun i => chkB (200 + i)) = true := by decide +kernel
theorem chk_208 : ((List.range 8).all fun i => chkB (208 + i)) = true := by decide +kernel
theorem chk_216 : ((List.range 8).all fun i => chkB (216 + i)) = true := by decide +kernel
theorem chk_224 : ((List.range 8).all fun i => chkB (224 + i)) = true := by decide +kernel
theorem chk_232 : ((List.range 8).all fun i => chkB (232 + i)) = true := by decide +kernel
end Go.Proofs.Th
namespace Go.Proofs.Th
open Go.RowKit Go.Proofs.On
set_option maxRecDepth 100000
theorem chk_248 : ((List.range 8).all fun i => chkB (248 + i)) = true := by decide +kernel
end Go.Proofs.Th
namespace Go.Proofs.Th
open Go.RowKit Go.Proofs.On
theorem chk_of {lo : Nat} (h : ((List.range 8).all fun i => chkB (lo + i)) = true) (a : Int) (h0 : (lo : Int) * 256 ≤ a) (h1 : a < ((lo : Int) + 8) * 256) : chkH a = true := by
  rw [List.all_eq_true] at h
  obtain ⟨n, rfl⟩ : ∃ n : Nat, a = n := ⟨a.toNat, by omega⟩
  have := h (n / 256 - lo) (List.mem_range.mpr (by omega))
  unfold chkB at this
  rw [List.all_eq_true] at this
  have := this (n % 256) (List.mem_range.mpr (by omega))
  rw [show (lo + (n / 256 - lo)) * 256 + n % 256 = n by omega] at this
  exact this
theorem chkH_all (a : Int) (h0 : 0 ≤ a) (h1 : a < 65536) (h2 : a / 2048 ≠ 30) : chkH a = true := by
  by_cases c0 : a < 2048
  · exact chk_of chk_0 a (by omega) (by omega)
  by_cases c8 : a < 4096
  · exact chk_of chk_8 a (by omega) (by omega)
  by_cases c16 : a < 6144
  · exact chk_of chk_16 a (by omega) (by omega)
  by_cases c24 : a < 8192
  · exact chk_of chk_24 a (by omega) (by omega)
  by_cases c32 : a < 10240
  · exact chk_of chk_32 a (by omega) (by omega)
  by_cases c40 : a < 12288
  · exact chk_of chk_40 a (by omega) (by omega)
  by_cases c48 : a < 14336
  · exact chk_of chk_48 a (by omega) (by omega)
  by_cases c56 : a < 16384
  · exact chk_of chk_56 a (by omega) (by omega)
  by_cases c64 : a < 18432
  · exact chk_of chk_64 a (by omega) (by omega)
  by_cases c72 : a < 20480
  · exact chk_of chk_72 a (by omega) (by omega)
  by_cases c80 : a < 22528
  · exact chk_of chk_80 a (by omega) (by omega)
  by_cases c88 : a < 24576
  · exact chk_of chk_88 a (by omega) (by omega)
  by_cases c96 : a < 26624
  · exact chk_of chk_96 a (by omega) (by omega)
  by_cases c104 : a < 28672
  · exact chk_of chk_104 a (by omega) (by omega)
  by_cases c112 : a < 30720
  · exact chk_of chk_112 a (by omega) (by omega)
  by_cases c120 : a < 32768
  · exact chk_of chk_120 a (by omega) (by omega)
  by_cases c128 : a < 34816
  · exact chk_of chk_128 a (by omega) (by omega)
  by_cases c136 : a < 36864
  · exact chk_of chk_136 a (by omega) (by omega)
  by_cases c144 : a < 38912
  · exact chk_of chk_144 a (by omega) (by omega)
  by_cases c152 : a < 40960
  · exact chk_of chk_152 a (by omega) (by omega)
  by_cases c160 : a < 43008
  · exact chk_of chk_160 a (by omega) (by omega)
  by_cases c168 : a < 45056
  · exact chk_of chk_168 a (by omega) (by omega)
  by_cases c176 : a < 47104
  · exact chk_of chk_176 a (by omega) (by omega)
  by_cases c184 : a < 49152
  · exact chk_of chk_184 a (by omega) (by omega)
  by_cases c192 : a < 51200
  · exact chk_of chk_192 a (by omega) (by omega)
  by_cases c200 : a < 53248
  · exact chk_of chk_200 a (by omega) (by omega)
  by_cases c208 : a < 55296
  · exact chk_of chk_208 a (by omega) (by omega)
  by_cases c216 : a < 57344
  · exact chk_of chk_216 a (by omega) (by omega)
  by_cases c224 : a < 59392
  · exact chk_of chk_224 a (by omega) (by omega)
  by_cases c232 : a < 61440
  · exact chk_of chk_232 a (by omega) (by omega)
  exact chk_of chk_248 a (by omega) (by omega)
theorem back_all (i : Ins) (h28 : i.op ≠ 28) (h43 : i.op ≠ 43) (hr : rightS i = true) : back1 i = true := by
  refine back_of ?_ h28 h43 hr
  by_cases e1 : i.op = 1
  · rw [e1]; exact backAll_1
  by_cases e2 : i.op = 2
  · rw [e2]; exact backAll_2
  by_cases e3 : i.op = 3
  · rw [e3]; exact backAll_3
  by_cases e4 : i.op = 4
  · rw [e4]; exact backAll_4
  by_cases e5 : i.op = 5
  · rw [e5]; exact backAll_5
  by_cases e6 : i.op = 6
  · rw [e6]; exact backAll_6
  by_cases e7 : i.op = 7
  · rw [e7]; exact backAll_7
  by_cases e8 : i.op = 8
  · rw [e8]; exact backAll_8
  by_cases e9 : i.op = 9
  · rw [e9]; exact backAll_9
  by_cases e10 : i.op = 10
  · rw [e10]; exact backAll_10
  by_cases e11 : i.op = 11
  · rw [e11]; exact backAll_11
  by_cases e12 : i.op = 12
  · rw [e12]; exact backAll_12
  by_cases e13 : i.op = 13
  · rw [e13]; exact backAll_13
  by_cases e14 : i.op = 14
  · rw [e14]; exact backAll_14
  by_cases e15 : i.op = 15
  · rw [e15]; exact backAll_15
  by_cases e16 : i.op = 16
  · rw [e16]; exact backAll_16
  by_cases e17 : i.op = 17
  · rw [e17]; exact backAll_17
  by_cases e18 : i.op = 18
  · rw [e18]; exact backAll_18
  by_cases e19 : i.op = 19
  · rw [e19]; exact backAll_19
  by_cases e20 : i.op = 20
  · rw [e20]; exact backAll_20
  by_cases e21 : i.op = 21
  · rw [e21]; exact backAll_21
  by_cases e22 : i.op = 22
  · rw [e22]; exact backAll_22
  by_cases e23 : i.op = 23
  · rw [e23]; exact backAll_23
  by_cases e24 : i.op = 24
  · rw [e24]; exact backAll_24
  by_cases e25 : i.op = 25
  · rw [e25]; exact backAll_25
  by_cases e26 : i.op = 26
  · rw [e26]; exact backAll_26
  by_cases e27 : i.op = 27
  · rw [e27]; exact backAll_27
  by_cases e29 : i.op = 29
  · rw [e29]; exact backAll_29
  by_cases e30 : i.op = 30
  · rw [e30]; exact backAll_30
  by_cases e31 : i.op = 31
  · rw [e31]; exact backAll_31
  by_cases e32 : i.op = 32
  · rw [e32]; exact backAll_32
  by_cases e33 : i.op = 33
  · rw [e33]; exact backAll_33
  by_cases e34 : i.op = 34
  · rw [e34]; exact backAll_34
  by_cases e35 : i.op = 35
  · rw [e35]; exact backAll_35
  by_cases e36 : i.op = 36
  · rw [e36]; exact backAll_36
  by_cases e37 : i.op = 37
  · rw [e37]; exact backAll_37
  by_cases e38 : i.op = 38
  · rw [e38]; exact backAll_38
  by_cases e39 : i.op = 39
  · rw [e39]; exact backAll_39
  by_cases e40 : i.op = 40
  · rw [e40]; exact backAll_40
  by_cases e41 : i.op = 41
  · rw [e41]; exact backAll_41
  by_cases e42 : i.op = 42
  · rw [e42]; exact backAll_42
  by_cases e44 : i.op = 44
  · rw [e44]; exact backAll_44
  by_cases e45 : i.op = 45
  · rw [e45]; exact backAll_45
  have hA : ¬ (12 ≤ i.op ∧ i.op ≤ 27) := by omega
  have hM : ¬ (8 ≤ i.op ∧ i.op ≤ 11) := by omega
  have hn : rowOf i.op = none := by simp [rowOf, hA, hM, e1, e2, e3, e4, e5, e6, e7, e29, e30, e31, e32, e33, e34, e35, e36, e37, e38, e39, e40, e41, e42, e44, e45]
  unfold backAll
  rw [hn]
end Go.Proofs.Th
namespace Go.Proofs.Th
open Go.RowKit Go.Proofs.On
theorem decS_row {a : Int} {t : List Int} (h1 : a / 2048 ≠ 30) : decS (a :: t) = decS [a] := by
  unfold decS
  dsimp only
  rw [if_neg h1, if_neg h1]
theorem right28_iff {d n m imm cond : Int} (h : rightS ⟨28, d, n, m, imm, cond⟩ = true) : n = 0 ∧ imm = 0 ∧ cond = 0 ∧ 0 ≤ d ∧ d < 15 ∧ 0 ≤ m ∧ m < 15 := by
  simp [rightS] at h; omega
theorem right43_iff {d n m imm cond : Int} (h : rightS ⟨43, d, n, m, imm, cond⟩ = true) : d = 0 ∧ n = 0 ∧ m = 0 ∧ cond = 0 ∧ -16777216 ≤ imm ∧ imm ≤ 16777214 ∧ imm % 2 = 0 := by
  simp [rightS] at h
  obtain ⟨⟨⟨⟨⟨⟨h1, h2⟩, h3⟩, h4⟩, h5⟩, h6⟩, h7⟩ := h
  exact ⟨h1, h2, h3, h4, h5, h6, by have := Int.dvd_of_tmod_eq_zero h7; omega⟩
theorem n16 : ∀ q : Nat, q < 16 → (q = 15 ∨ q = 14 ∨ q = 12 ∨ Nat.testBit 53248 q = false) := by decide
theorem and53248 (b : Int) (h0 : 0 ≤ b) (h1 : b < 65536) : bits .and .u16 b 53248 = 53248 ↔ b / 16384 = 3 ∧ b / 4096 % 2 = 1 := by
  obtain ⟨n, rfl⟩ : ∃ n : Nat, b = n := ⟨b.toNat, by omega⟩
  have e := u16_and_nat n 53248 (by omega) (by decide)
  rw [show ((53248 : Nat) : Int) = 53248 from rfl] at e
  rw [e]
  have tb : ∀ k, Nat.testBit n k = decide (n / 2 ^ k % 2 = 1) := fun k => Nat.testBit_eq_decide_div_mod_eq
  constructor
  · intro h
    have h : n &&& 53248 = 53248 := by omega
    have bit : ∀ k, Nat.testBit 53248 k = true → n / 2 ^ k % 2 = 1 := fun k hk => by
      have := congrArg (fun x => Nat.testBit x k) h
      simp only [Nat.testBit_and, hk, Bool.and_true] at this
      rw [tb] at this
      simpa using this
    have b15 := bit 15 (by decide)
    have b14 := bit 14 (by decide)
    have b12 := bit 12 (by decide)
    omega
  · intro ⟨h2, h3⟩
    have b15 : n / 2 ^ 15 % 2 = 1 := by omega
    have b14 : n / 2 ^ 14 % 2 = 1 := by omega
    have b12 : n / 2 ^ 12 % 2 = 1 := by omega
    have : n &&& 53248 = 53248 := by
      apply Nat.eq_of_testBit_eq
      intro k
      rw [Nat.testBit_and]
      by_cases hk : k < 16
      · rcases n16 k hk with rfl | rfl | rfl | h
        · rw [tb, decide_eq_true b15]; rfl
        · rw [tb, decide_eq_true b14]; rfl
        · rw [tb, decide_eq_true b12]; rfl
        · rw [h, Bool.and_false]
      · have : Nat.testBit 53248 k = false := Nat.testBit_lt_two_pow (Nat.lt_of_lt_of_le (by decide : 53248 < 2 ^ 16) (Nat.pow_le_pow_right (by decide) (by omega)))
        rw [this, Bool.and_false]
    omega
theorem long_range (n : Int) (h0 : -16777216 ≤ n) (h1 : n ≤ 16777214) (h2 : n % 2 = 0) : longA n / 2048 = 30 ∧ longB n / 16384 = 3 ∧ longB n / 4096 % 2 = 1 ∧ 0 ≤ longA n ∧ longA n < 65536 ∧ 0 ≤ longB n ∧ longB n < 65536 := by
  obtain ⟨s, j, k, x, y, hs, hj, hk, hx, hx', hy, hy', hn⟩ := parts_of n h0 h1 h2
  obtain ⟨e1, e2⟩ := long_mk hs hj hk hx hx' hy hy' hn
  have n1 := (nx_bit hj hs).1
  have n2 := (nx_bit hk hs).1
  rw [e1, e2]
  clear e1 e2 hn
  generalize nx j s = u at *
  generalize nx k s = v at *
  rcases n1 with rfl | rfl <;> rcases n2 with rfl | rfl <;> omega
/-- the halfwords of an instruction that may be -/
theorem enc_range (i : Ins) (h : rightS i = true) : (∀ x ∈ encL i, 0 ≤ x ∧ x < 65536) ∧ ((encL i).length = 1 ∧ i.op ≠ 43 ∨ (encL i).length = 2 ∧ i.op = 43) := by
  by_cases h28 : i.op = 28
  · obtain ⟨op, d, n, m, imm, cond⟩ := i
    dsimp only at h28
    subst h28
    obtain ⟨rfl, rfl, rfl, r1, r2, r3, r4⟩ := right28_iff h
    unfold encL
    rw [if_pos rfl]
    dsimp only
    rw [enc28_eq d m r1 (by omega) r3 (by omega)]
    exact ⟨by simp; omega, .inl ⟨rfl, by decide⟩⟩
  by_cases h43 : i.op = 43
  · obtain ⟨op, d, n, m, imm, cond⟩ := i
    dsimp only at h43
    subst h43
    obtain ⟨rfl, rfl, rfl, rfl, r1, r2, r3⟩ := right43_iff h
    have := long_range imm r1 r2 r3
    unfold encL
    rw [if_neg h28, if_pos rfl]
    exact ⟨by simp; omega, .inr ⟨rfl, rfl⟩⟩
  · have hb := back_all i h28 h43 h
    unfold back1 at hb
    split at hb
    · rename_i x hx
      rw [hx]
      simp only [Bool.and_eq_true] at hb
      obtain ⟨⟨⟨⟨⟨b1, b2⟩, _⟩, _⟩, _⟩, _⟩ := hb
      simp at b1 b2
      exact ⟨by simp; omega, .inl ⟨rfl, h43⟩⟩
    · cases hb
/-- what may be is decoded from its halfwords, whatever stands behind -/
theorem dec_enc (i : Ins) (h : rightS i = true) (t : List Int) : decS (encL i ++ t) = (i, ((encL i).length : Int), 0) := by
  by_cases h28 : i.op = 28
  · obtain ⟨op, d, n, m, imm, cond⟩ := i
    dsimp only at h28
    subst h28
    obtain ⟨rfl, rfl, rfl, r1, r2, r3, r4⟩ := right28_iff h
    have e : encL ⟨28, d, 0, m, 0, 0⟩ = [17920 + d / 8 * 128 + m * 8 + d % 8] := by
      unfold encL
      rw [if_pos rfl]
      dsimp only
      rw [enc28_eq d m r1 (by omega) r3 (by omega)]
    rw [e]
    show decS (_ :: t) = _
    rw [decS_row (by omega)]
    unfold decS
    dsimp only
    rw [if_neg (by omega), if_pos (by omega)]
    have hm : movI (17920 + d / 8 * 128 + m * 8 + d % 8) = ⟨28, d, 0, m, 0, 0⟩ := by
      unfold movI
      have e1 : (17920 + d / 8 * 128 + m * 8 + d % 8) / 128 % 2 * 8 + (17920 + d / 8 * 128 + m * 8 + d % 8) % 8 = d := by omega
      have e2 : (17920 + d / 8 * 128 + m * 8 + d % 8) / 8 % 16 = m := by omega
      rw [e1, e2]
    rw [hm, if_pos h]
    rfl
  by_cases h43 : i.op = 43
  · obtain ⟨op, d, n, m, imm, cond⟩ := i
    dsimp only at h43
    subst h43
    obtain ⟨rfl, rfl, rfl, rfl, r1, r2, r3⟩ := right43_iff h
    obtain ⟨q1, q2, q3, q4, q5, q6, q7⟩ := long_range imm r1 r2 r3
    have e : encL ⟨43, 0, 0, 0, imm, 0⟩ = [longA imm, longB imm] := by
      unfold encL
      rw [if_neg (show ¬ (43 : Int) = 28 by decide), if_pos rfl]
    rw [e]
    show decS (_ :: _ :: t) = _
    unfold decS
    dsimp only
    rw [if_pos q1, if_pos ((and53248 _ q6 q7).mpr ⟨q2, q3⟩), far_long imm r1 r2 r3]
    rfl
  · have hb := back_all i h28 h43 h
    unfold back1 at hb
    split at hb
    · rename_i x hx
      rw [hx]
      simp only [Bool.and_eq_true] at hb
      obtain ⟨⟨⟨⟨⟨b1, b2⟩, b3⟩, b4⟩, b5⟩, b6⟩ := hb
      simp at b1 b2 b3 b4 b5
      show decS (x :: t) = _
      rw [decS_row b3]
      unfold decS
      dsimp only
      rw [if_neg b3, if_neg b4]
      cases hr : rowOf (opS x) with
      | none => rw [hr] at b6; cases b6
      | some p =>
        obtain ⟨b, l⟩ := p
        rw [hr] at b6
        simp at b6
        dsimp only
        rw [b6, if_pos (by simp [h])]
        rfl
    · cases hb
theorem enc_inj {i j : Ins} (hi : rightS i = true) (hj : rightS j = true) (h : encL i = encL j) : i = j := by
  have e1 := dec_enc i hi []
  have e2 := dec_enc j hj []
  rw [h] at e1
  rw [e1] at e2
  exact congrArg (fun (x : Ins × Int × Int) => x.1) e2
/-- what is decoded is encoded as the same halfwords -/
theorem dec_right {a b : Int} {j : Ins} {n e : Int} (ha : 0 ≤ a) (ha' : a < 65536) (hb : 0 ≤ b) (hb' : b < 65536) (h : decS [a, b] = (j, n, e)) (he : e = 0) : rightS j = true ∧ ((n = 1 ∧ encL j = [a]) ∨ (n = 2 ∧ encL j = [a, b])) := by
  by_cases h1 : a / 2048 = 30
  · unfold decS at h
    dsimp only at h
    rw [if_pos h1] at h
    by_cases h2 : bits .and .u16 b 53248 = 53248
    · rw [if_pos h2] at h
      obtain ⟨q1, q2⟩ := (and53248 b hb hb').mp h2
      obtain ⟨r1, r2, r3, r4, r5⟩ := long_far a b h1 q1 q2
      simp only [Prod.mk.injEq] at h
      obtain ⟨rfl, rfl, _⟩ := h
      refine ⟨?_, .inr ⟨rfl, ?_⟩⟩
      · unfold rightS
        rw [if_neg (show ¬ (43 : Int) = 28 by decide), if_pos rfl]
        simp
        exact ⟨⟨r3, r4⟩, Int.tmod_eq_zero_of_dvd (Int.dvd_of_emod_eq_zero r5)⟩
      · unfold encL
        rw [if_neg (show ¬ (43 : Int) = 28 by decide), if_pos rfl]
        dsimp only
        rw [r1, r2]
    · rw [if_neg h2] at h
      simp only [Prod.mk.injEq] at h
      obtain ⟨_, _, rfl⟩ := h
      exact absurd he (by decide)
  · rw [decS_row h1] at h
    have hc := chkH_all a ha ha' h1
    unfold chkH at hc
    dsimp only at hc
    cases hr : rightS (decR1 a) with
    | true =>
      rw [hr, if_pos rfl] at hc
      simp at hc
      rw [hc.1] at h
      simp only [Prod.mk.injEq] at h
      obtain ⟨rfl, rfl, _⟩ := h
      exact ⟨hr, .inl ⟨rfl, hc.2⟩⟩
    | false =>
      rw [hr, if_neg (by simp)] at hc
      simp at hc
      rw [hc] at h
      simp only [Prod.mk.injEq] at h
      obtain ⟨_, _, rfl⟩ := h
      exact absurd he (by decide)
end Go.Proofs.Th
