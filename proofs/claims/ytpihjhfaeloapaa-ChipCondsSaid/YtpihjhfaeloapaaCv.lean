/- Plain law of ChipConds: flags behind a comparison. -/
import Derived.Test.YtpihjhfaeloapaaCt
import Derived.Test.YtpihjhfaeloapaaCn
namespace Go.Proofs.Ytpihjhfaeloapaa
open Go.RowKit On Th
theorem xor_top (a b : Int) (ha : U a) (hb : U b) : bits .xor .u32 a b / 2147483648 = (a / 2147483648 + b / 2147483648) % 2 ∧ U (bits .xor .u32 a b) := by
  obtain ⟨a0, a1⟩ := ha
  obtain ⟨b0, b1⟩ := hb
  rw [u32_xor _ _ a0 a1 b0 b1]
  obtain ⟨m, rfl⟩ : ∃ n : Nat, a = n := ⟨a.toNat, by omega⟩
  obtain ⟨n, rfl⟩ : ∃ n : Nat, b = n := ⟨b.toNat, by omega⟩
  simp only [Int.toNat_natCast]
  have hx : m ^^^ n < 2 ^ 32 := Nat.xor_lt_two_pow (by omega) (by omega)
  have ht := Nat.testBit_xor m n 31
  simp only [Nat.testBit, Nat.shiftRight_eq_div_pow] at ht
  have e : ∀ z : Nat, (1 &&& z / 2 ^ 31 != 0) = decide (z / 2147483648 % 2 = 1) := fun z => by
    rw [Nat.one_and_eq_mod_two]
    have : z / 2 ^ 31 % 2 = 0 ∨ z / 2 ^ 31 % 2 = 1 := by omega
    rcases this with h | h <;> simp [h] <;> omega
  rw [e, e, e] at ht
  refine ⟨?_, by unfold U; omega⟩
  have h1 : (decide ((m ^^^ n) / 2147483648 % 2 = 1) = true) ↔ (decide (m / 2147483648 % 2 = 1) ^^ decide (n / 2147483648 % 2 = 1)) = true := by rw [ht]
  by_cases p : m / 2147483648 % 2 = 1 <;> by_cases q : n / 2147483648 % 2 = 1 <;> simp [p, q] at h1 <;> omega
theorem and_top (a b : Int) (ha : U a) (hb : U b) : bits .and .u32 a b / 2147483648 = (a / 2147483648) * (b / 2147483648) := by
  obtain ⟨a0, a1⟩ := ha
  obtain ⟨b0, b1⟩ := hb
  rw [u32_and _ _ a0 a1 b0 b1]
  obtain ⟨m, rfl⟩ : ∃ n : Nat, a = n := ⟨a.toNat, by omega⟩
  obtain ⟨n, rfl⟩ : ∃ n : Nat, b = n := ⟨b.toNat, by omega⟩
  simp only [Int.toNat_natCast]
  have hx : m &&& n < 2 ^ 32 := Nat.and_lt_two_pow _ (by omega)
  have ht := Nat.testBit_and m n 31
  simp only [Nat.testBit, Nat.shiftRight_eq_div_pow] at ht
  have e : ∀ z : Nat, (1 &&& z / 2 ^ 31 != 0) = decide (z / 2147483648 % 2 = 1) := fun z => by
    rw [Nat.one_and_eq_mod_two]
    have : z / 2 ^ 31 % 2 = 0 ∨ z / 2 ^ 31 % 2 = 1 := by omega
    rcases this with h | h <;> simp [h] <;> omega
  rw [e, e, e] at ht
  have h1 : (decide ((m &&& n) / 2147483648 % 2 = 1) = true) ↔ (decide (m / 2147483648 % 2 = 1) && decide (n / 2147483648 % 2 = 1)) = true := by rw [ht]
  have hm : m / 2147483648 = 0 ∨ m / 2147483648 = 1 := by omega
  have hn : n / 2147483648 = 0 ∨ n / 2147483648 = 1 := by omega
  have hm' : (m : Int) / 2147483648 = (m / 2147483648 : Nat) := by omega
  have hn' : (n : Int) / 2147483648 = (n / 2147483648 : Nat) := by omega
  rw [hm', hn']
  rcases hm with p | p <;> rcases hn with q | q <;> simp [p, q] at h1 ⊢ <;> omega
/-- signed overflow of a sum -/
theorem vS_top (a b n : Int) (ha : U a) (hb : U b) (hn : U n) : vS a b n = (decide (a / 2147483648 ≠ n / 2147483648) && decide (b / 2147483648 ≠ n / 2147483648)) := by
  obtain ⟨h1, u1⟩ := xor_top a n ha hn
  obtain ⟨h2, u2⟩ := xor_top b n hb hn
  unfold vS
  rw [and_top _ _ u1 u2, h1, h2]
  unfold U at *
  have p : a / 2147483648 = 0 ∨ a / 2147483648 = 1 := by omega
  have q : b / 2147483648 = 0 ∨ b / 2147483648 = 1 := by omega
  have r : n / 2147483648 = 0 ∨ n / 2147483648 = 1 := by omega
  rcases p with p | p <;> rcases q with q | q <;> rcases r with r | r <;> simp [p, q, r]
/-- what each condition says of two words that were compared -/
def wantC (a b k : Int) : Bool :=
  if k = 0 then decide (a = b) else if k = 1 then decide (a ≠ b) else if k = 2 then decide (b ≤ a) else if k = 3 then decide (a < b)
  else if k = 4 then decide (sg ((a - b) % 4294967296) < 0) else if k = 5 then decide (0 ≤ sg ((a - b) % 4294967296))
  else if k = 8 then decide (b < a) else if k = 9 then decide (a ≤ b) else if k = 10 then decide (sg b ≤ sg a) else if k = 11 then decide (sg a < sg b)
  else if k = 12 then decide (sg b < sg a) else decide (sg a ≤ sg b)
theorem sg_eq {a : Int} (h : U a) : sg a = a - 4294967296 * (a / 2147483648) := by
  unfold U at h; unfold sg; split <;> omega
theorem conds_law (a b k : Int) (ha : U a) (hb : U b) (h0 : 0 ≤ k) (h1 : k ≤ 13) (h6 : k ≠ 6) (h7 : k ≠ 7) :
    holdsS (sumX a (4294967295 - b) true / 2147483648 == 1) (sumX a (4294967295 - b) true == 0) ((a + (4294967295 - b) + cb true) / 4294967296 == 1) (vS a (4294967295 - b) (sumX a (4294967295 - b) true)) k = wantC a b k := by
  rw [vS_top a (4294967295 - b) _ ha hb.neg (sumX_U _ _ _)]
  have e1 := sg_eq ha
  have e2 := sg_eq hb
  have e3 := sg_eq (a := (a - b) % 4294967296) (by unfold U; omega)
  unfold U at ha hb
  have hs : sumX a (4294967295 - b) true = (a - b) % 4294967296 := by unfold sumX cb; simp only [if_true]; omega
  have hcr : ((a + (4294967295 - b) + cb true) / 4294967296 == 1) = decide (b ≤ a) := by unfold cb; rw [Bool.eq_iff_iff]; simp only [if_true, beq_iff_eq, decide_eq_true_eq]; omega
  have hbn : (4294967295 - b) / 2147483648 = 1 - b / 2147483648 := by omega
  rw [hs, hcr, hbn]
  obtain ⟨n, hn⟩ : ∃ n, n = (a - b) % 4294967296 := ⟨_, rfl⟩
  rw [← hn] at e3 ⊢
  have p : a / 2147483648 = 0 ∨ a / 2147483648 = 1 := by omega
  have q : b / 2147483648 = 0 ∨ b / 2147483648 = 1 := by omega
  have r : n / 2147483648 = 0 ∨ n / 2147483648 = 1 := by omega
  have hc : k = 0 ∨ k = 1 ∨ k = 2 ∨ k = 3 ∨ k = 4 ∨ k = 5 ∨ k = 8 ∨ k = 9 ∨ k = 10 ∨ k = 11 ∨ k = 12 ∨ k = 13 := by omega
  rw [Bool.eq_iff_iff]
  rcases hc with rfl | rfl | rfl | rfl | rfl | rfl | rfl | rfl | rfl | rfl | rfl | rfl <;> rcases p with p | p <;> rcases q with q | q <;> rcases r with r | r <;> unfold holdsS wantC <;> (try rw [← hn]) <;> simp [p, q, r] <;> omega
theorem zero_law (a b k : Int) (nf cf vf : Bool) (hk : k = 0 ∨ k = 1) : holdsS nf (sumX a b false == 0) cf vf k = (decide ((a + b) % 4294967296 = 0) == decide (k = 0)) := by
  unfold sumX cb
  rw [Bool.eq_iff_iff]
  rcases hk with rfl | rfl <;> unfold holdsS <;> simp
end Go.Proofs.Ytpihjhfaeloapaa
