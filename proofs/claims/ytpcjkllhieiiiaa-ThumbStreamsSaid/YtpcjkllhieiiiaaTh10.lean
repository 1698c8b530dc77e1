/- Thumb: there and back, any instruction: plain. No program in sight. -/
import Derived.Test.YtpcjkllhieiiiaaTk
namespace Go.Proofs.Th
open Go.RowKit Go.Proofs.On
theorem decS_row {a : Int} {t : List Int} (h1 : a / 2048 ≠ 30) : decS (a :: t) = decS [a] := by
  unfold decS
  dsimp only
  rw [if_neg h1, if_neg h1]
theorem right28_iff {d n m imm cond : Int} (h : rightS ⟨28, d, n, m, imm, cond⟩ = true) : n = 0 ∧ imm = 0 ∧ cond = 0 ∧ 0 ≤ d ∧ d < 15 ∧ 0 ≤ m ∧ m < 15 := by
  simp [rightS] at h; omega
theorem right43_iff {d n m imm cond : Int} (h : rightS ⟨43, d, n, m, imm, cond⟩ = true) : d = 0 ∧ n = 0 ∧ m = 0 ∧ cond = 0 ∧ -16777216 ≤ imm ∧ imm ≤ 16777214 ∧ imm % 2 = 0 := by
  simp [rightS] at h
  obtain ⟨⟨⟨⟨⟨⟨h1, h2⟩, h3⟩, h4⟩, h5⟩, h6⟩, h7⟩ := h
  exact ⟨h1, h2, h3, h4, h5, h6, by have := Int.dvd_of_tmod_eq_zero h7; omega⟩
theorem n16 : ∀ q : Nat, q < 16 → (q = 15 ∨ q = 14 ∨ q = 12 ∨ Nat.testBit 53248 q = false) := by decide
theorem and53248 (b : Int) (h0 : 0 ≤ b) (h1 : b < 65536) : bits .and .u16 b 53248 = 53248 ↔ b / 16384 = 3 ∧ b / 4096 % 2 = 1 := by
  obtain ⟨n, rfl⟩ : ∃ n : Nat, b = n := ⟨b.toNat, by omega⟩
  have e := u16_and_nat n 53248 (by omega) (by decide)
  rw [show ((53248 : Nat) : Int) = 53248 from rfl] at e
  rw [e]
  have tb : ∀ k, Nat.testBit n k = decide (n / 2 ^ k % 2 = 1) := fun k => Nat.testBit_eq_decide_div_mod_eq
  constructor
  · intro h
    have h : n &&& 53248 = 53248 := by omega
    have bit : ∀ k, Nat.testBit 53248 k = true → n / 2 ^ k % 2 = 1 := fun k hk => by
      have := congrArg (fun x => Nat.testBit x k) h
      simp only [Nat.testBit_and, hk, Bool.and_true] at this
      rw [tb] at this
      simpa using this
    have b15 := bit 15 (by decide)
    have b14 := bit 14 (by decide)
    have b12 := bit 12 (by decide)
    omega
  · intro ⟨h2, h3⟩
    have b15 : n / 2 ^ 15 % 2 = 1 := by omega
    have b14 : n / 2 ^ 14 % 2 = 1 := by omega
    have b12 : n / 2 ^ 12 % 2 = 1 := by omega
    have : n &&& 53248 = 53248 := by
      apply Nat.eq_of_testBit_eq
      intro k
      rw [Nat.testBit_and]
      by_cases hk : k < 16
      · rcases n16 k hk with rfl | rfl | rfl | h
        · rw [tb, decide_eq_true b15]; rfl
        · rw [tb, decide_eq_true b14]; rfl
        · rw [tb, decide_eq_true b12]; rfl
        · rw [h, Bool.and_false]
      · have : Nat.testBit 53248 k = false := Nat.testBit_lt_two_pow (Nat.lt_of_lt_of_le (by decide : 53248 < 2 ^ 16) (Nat.pow_le_pow_right (by decide) (by omega)))
        rw [this, Bool.and_false]
    omega
theorem long_range (n : Int) (h0 : -16777216 ≤ n) (h1 : n ≤ 16777214) (h2 : n % 2 = 0) : longA n / 2048 = 30 ∧ longB n / 16384 = 3 ∧ longB n / 4096 % 2 = 1 ∧ 0 ≤ longA n ∧ longA n < 65536 ∧ 0 ≤ longB n ∧ longB n < 65536 := by
  obtain ⟨s, j, k, x, y, hs, hj, hk, hx, hx', hy, hy', hn⟩ := parts_of n h0 h1 h2
  obtain ⟨e1, e2⟩ := long_mk hs hj hk hx hx' hy hy' hn
  have n1 := (nx_bit hj hs).1
  have n2 := (nx_bit hk hs).1
  rw [e1, e2]
  clear e1 e2 hn
  generalize nx j s = u at *
  generalize nx k s = v at *
  rcases n1 with rfl | rfl <;> rcases n2 with rfl | rfl <;> omega
/-- the halfwords of an instruction that may be -/
theorem enc_range (i : Ins) (h : rightS i = true) : (∀ x ∈ encL i, 0 ≤ x ∧ x < 65536) ∧ ((encL i).length = 1 ∧ i.op ≠ 43 ∨ (encL i).length = 2 ∧ i.op = 43) := by
  by_cases h28 : i.op = 28
  · obtain ⟨op, d, n, m, imm, cond⟩ := i
    dsimp only at h28
    subst h28
    obtain ⟨rfl, rfl, rfl, r1, r2, r3, r4⟩ := right28_iff h
    unfold encL
    rw [if_pos rfl]
    dsimp only
    rw [enc28_eq d m r1 (by omega) r3 (by omega)]
    exact ⟨by simp; omega, .inl ⟨rfl, by decide⟩⟩
  by_cases h43 : i.op = 43
  · obtain ⟨op, d, n, m, imm, cond⟩ := i
    dsimp only at h43
    subst h43
    obtain ⟨rfl, rfl, rfl, rfl, r1, r2, r3⟩ := right43_iff h
    have := long_range imm r1 r2 r3
    unfold encL
    rw [if_neg h28, if_pos rfl]
    exact ⟨by simp; omega, .inr ⟨rfl, rfl⟩⟩
  · have hb := back_all i h28 h43 h
    unfold back1 at hb
    split at hb
    · rename_i x hx
      rw [hx]
      simp only [Bool.and_eq_true] at hb
      obtain ⟨⟨⟨⟨⟨b1, b2⟩, _⟩, _⟩, _⟩, _⟩ := hb
      simp at b1 b2
      exact ⟨by simp; omega, .inl ⟨rfl, h43⟩⟩
    · cases hb
/-- what may be is decoded from its halfwords, whatever stands behind -/
theorem dec_enc (i : Ins) (h : rightS i = true) (t : List Int) : decS (encL i ++ t) = (i, ((encL i).length : Int), 0) := by
  by_cases h28 : i.op = 28
  · obtain ⟨op, d, n, m, imm, cond⟩ := i
    dsimp only at h28
    subst h28
    obtain ⟨rfl, rfl, rfl, r1, r2, r3, r4⟩ := right28_iff h
    have e : encL ⟨28, d, 0, m, 0, 0⟩ = [17920 + d / 8 * 128 + m * 8 + d % 8] := by
      unfold encL
      rw [if_pos rfl]
      dsimp only
      rw [enc28_eq d m r1 (by omega) r3 (by omega)]
    rw [e]
    show decS (_ :: t) = _
    rw [decS_row (by omega)]
    unfold decS
    dsimp only
    rw [if_neg (by omega), if_pos (by omega)]
    have hm : movI (17920 + d / 8 * 128 + m * 8 + d % 8) = ⟨28, d, 0, m, 0, 0⟩ := by
      unfold movI
      have e1 : (17920 + d / 8 * 128 + m * 8 + d % 8) / 128 % 2 * 8 + (17920 + d / 8 * 128 + m * 8 + d % 8) % 8 = d := by omega
      have e2 : (17920 + d / 8 * 128 + m * 8 + d % 8) / 8 % 16 = m := by omega
      rw [e1, e2]
    rw [hm, if_pos h]
    rfl
  by_cases h43 : i.op = 43
  · obtain ⟨op, d, n, m, imm, cond⟩ := i
    dsimp only at h43
    subst h43
    obtain ⟨rfl, rfl, rfl, rfl, r1, r2, r3⟩ := right43_iff h
    obtain ⟨q1, q2, q3, q4, q5, q6, q7⟩ := long_range imm r1 r2 r3
    have e : encL ⟨43, 0, 0, 0, imm, 0⟩ = [longA imm, longB imm] := by
      unfold encL
      rw [if_neg (show ¬ (43 : Int) = 28 by decide), if_pos rfl]
    rw [e]
    show decS (_ :: _ :: t) = _
    unfold decS
    dsimp only
    rw [if_pos q1, if_pos ((and53248 _ q6 q7).mpr ⟨q2, q3⟩), far_long imm r1 r2 r3]
    rfl
  · have hb := back_all i h28 h43 h
    unfold back1 at hb
    split at hb
    · rename_i x hx
      rw [hx]
      simp only [Bool.and_eq_true] at hb
      obtain ⟨⟨⟨⟨⟨b1, b2⟩, b3⟩, b4⟩, b5⟩, b6⟩ := hb
      simp at b1 b2 b3 b4 b5
      show decS (x :: t) = _
      rw [decS_row b3]
      unfold decS
      dsimp only
      rw [if_neg b3, if_neg b4]
      cases hr : rowOf (opS x) with
      | none => rw [hr] at b6; cases b6
      | some p =>
        obtain ⟨b, l⟩ := p
        rw [hr] at b6
        simp at b6
        dsimp only
        rw [b6, if_pos (by simp [h])]
        rfl
    · cases hb
theorem enc_inj {i j : Ins} (hi : rightS i = true) (hj : rightS j = true) (h : encL i = encL j) : i = j := by
  have e1 := dec_enc i hi []
  have e2 := dec_enc j hj []
  rw [h] at e1
  rw [e1] at e2
  exact congrArg (fun (x : Ins × Int × Int) => x.1) e2
/-- what is decoded is encoded as the same halfwords -/
theorem dec_right {a b : Int} {j : Ins} {n e : Int} (ha : 0 ≤ a) (ha' : a < 65536) (hb : 0 ≤ b) (hb' : b < 65536) (h : decS [a, b] = (j, n, e)) (he : e = 0) : rightS j = true ∧ ((n = 1 ∧ encL j = [a]) ∨ (n = 2 ∧ encL j = [a, b])) := by
  by_cases h1 : a / 2048 = 30
  · unfold decS at h
    dsimp only at h
    rw [if_pos h1] at h
    by_cases h2 : bits .and .u16 b 53248 = 53248
    · rw [if_pos h2] at h
      obtain ⟨q1, q2⟩ := (and53248 b hb hb').mp h2
      obtain ⟨r1, r2, r3, r4, r5⟩ := long_far a b h1 q1 q2
      simp only [Prod.mk.injEq] at h
      obtain ⟨rfl, rfl, _⟩ := h
      refine ⟨?_, .inr ⟨rfl, ?_⟩⟩
      · unfold rightS
        rw [if_neg (show ¬ (43 : Int) = 28 by decide), if_pos rfl]
        simp
        exact ⟨⟨r3, r4⟩, Int.tmod_eq_zero_of_dvd (Int.dvd_of_emod_eq_zero r5)⟩
      · unfold encL
        rw [if_neg (show ¬ (43 : Int) = 28 by decide), if_pos rfl]
        dsimp only
        rw [r1, r2]
    · rw [if_neg h2] at h
      simp only [Prod.mk.injEq] at h
      obtain ⟨_, _, rfl⟩ := h
      exact absurd he (by decide)
  · rw [decS_row h1] at h
    have hc := chkH_all a ha ha' h1
    unfold chkH at hc
    dsimp only at hc
    cases hr : rightS (decR1 a) with
    | true =>
      rw [hr, if_pos rfl] at hc
      simp at hc
      rw [hc.1] at h
      simp only [Prod.mk.injEq] at h
      obtain ⟨rfl, rfl, _⟩ := h
      exact ⟨hr, .inl ⟨rfl, hc.2⟩⟩
    | false =>
      rw [hr, if_neg (by simp)] at hc
      simp at hc
      rw [hc] at h
      simp only [Prod.mk.injEq] at h
      obtain ⟨_, _, rfl⟩ := h
      exact absurd he (by decide)
end Go.Proofs.Th
