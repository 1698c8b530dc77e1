/- The document's shift, by one again and again, is the shift. -/
import Derived.Test.YtpihjhfaeloapaaCt
import Derived.Laws.BitsAllLaws
namespace Go.Proofs.Ytpihjhfaeloapaa
open Go.RowKit On Th
theorem i32_and1 (n : Int) : bits .and .i32 n 1 = n % 2 := by
  have h1 : (BitVec.ofInt 32 1).toNat = 2 ^ 1 - 1 := by decide
  have key : (BitVec.ofInt 32 n &&& BitVec.ofInt 32 1).toNat = (n % ((2 ^ 32 : Nat) : Int)).toNat % 2 ^ 1 := by
    rw [BitVec.toNat_and, BitVec.toNat_ofInt, h1, Nat.and_two_pow_sub_one_eq_mod]
  show IntKind.i32.wrap ((BitVec.ofInt 32 n &&& BitVec.ofInt 32 1).toNat : Nat) = n % 2
  rw [key, IntKind.wrap_i32]
  omega
theorem u32_and1 (n : Int) : bits .and .u32 n 1 = n % 2 := by
  have h1 : (BitVec.ofInt 32 1).toNat = 2 ^ 1 - 1 := by decide
  have key : (BitVec.ofInt 32 n &&& BitVec.ofInt 32 1).toNat = (n % ((2 ^ 32 : Nat) : Int)).toNat % 2 ^ 1 := by
    rw [BitVec.toNat_and, BitVec.toNat_ofInt, h1, Nat.and_two_pow_sub_one_eq_mod]
  show IntKind.u32.wrap ((BitVec.ofInt 32 n &&& BitVec.ofInt 32 1).toNat : Nat) = n % 2
  rw [key, IntKind.wrap_u32]
  omega
/-- a shift by one -/
def sh1 (op x : Int) : Int × Bool :=
  if op = 1 ∨ op = 14 then (x * 2 % 4294967296, x / 2147483648 == 1)
  else if op = 2 ∨ op = 15 then (x / 2, bits .and .u32 x 1 == 1)
  else if op = 3 ∨ op = 16 then (sg x / 2 % 4294967296, bits .and .u32 x 1 == 1)
  else (bits .or .u32 (x / 2) (x * 2147483648 % 4294967296), bits .or .u32 (x / 2) (x * 2147483648 % 4294967296) / 2147483648 == 1)
def shN (op x : Int) (cf : Bool) : Nat → Int × Bool
  | 0 => (x, cf)
  | k + 1 => sh1 op (shN op x cf k).1
theorem sh1_U {op x : Int} (h : U x) : U (sh1 op x).1 := by
  unfold sh1
  unfold U at *
  split
  · dsimp only; omega
  split
  · dsimp only; omega
  split
  · dsimp only; omega
  · have := bits_lo_u32 .or (x / 2) (x * 2147483648 % 4294967296); have := bits_hi_u32 .or (x / 2) (x * 2147483648 % 4294967296); dsimp only; omega
theorem shN_U {op x : Int} {cf : Bool} (h : U x) (k : Nat) : U (shN op x cf k).1 := by
  induction k with
  | zero => exact h
  | succ k ih => exact sh1_U ih
theorem shrX_succ {x : Int} (h : -2147483648 ≤ x ∧ x < 4294967296) (k : Nat) : shrX x (k + 1 : Nat) = shrX x k / 2 := by
  unfold shrX
  by_cases c : k < 32
  · have e1 : min (k + 1 : Int).toNat 32 = k + 1 := by omega
    have e2 : min (k : Int).toNat 32 = k := by omega
    rw [show ((k + 1 : Nat) : Int) = (k : Int) + 1 by omega, e1, e2, Int.pow_succ, Int.ediv_ediv_of_nonneg (Int.le_of_lt (Int.pow_pos (by decide)))]
  · have e1 : min ((k + 1 : Nat) : Int).toNat 32 = 32 := by omega
    have e2 : min (k : Int).toNat 32 = 32 := by omega
    rw [e1, e2]
    have : (2 : Int) ^ 32 = 4294967296 := by decide
    rw [this]; omega
theorem shlX_succ (x : Int) (k : Nat) : shlX x (k + 1 : Nat) = shlX x k * 2 % 4294967296 := by
  unfold shlX
  by_cases c : k < 32
  · have e1 : min ((k + 1 : Nat) : Int).toNat 32 = k + 1 := by omega
    have e2 : min (k : Int).toNat 32 = k := by omega
    rw [e1, e2, Int.pow_succ, ← Int.mul_assoc]
    generalize x * 2 ^ k = y
    omega
  · have e1 : min ((k + 1 : Nat) : Int).toNat 32 = 32 := by omega
    have e2 : min (k : Int).toNat 32 = 32 := by omega
    rw [e1, e2]
    have : (2 : Int) ^ 32 = 4294967296 := by decide
    rw [this]; omega
theorem shlX_zero {x : Int} (h : U x) : shlX x 0 = x := by unfold shlX U at *; simp; omega
theorem shrX_zero (x : Int) : shrX x 0 = x := by unfold shrX; simp
theorem sg_mod {y : Int} (h : -2147483648 ≤ y ∧ y ≤ 2147483647) : sg (y % 4294967296) = y := by unfold sg; split <;> omega
theorem big_bit {x j : Nat} (hx : x < 4294967296) (hj : 32 ≤ j) : Nat.testBit x j = false :=
  Nat.testBit_lt_two_pow (Nat.lt_of_lt_of_le hx (by have := Nat.pow_le_pow_right (n := 2) (by omega) hj; simpa using this))
/-- the turned word, bit by bit -/
theorem rorX_bit {x : Nat} (hx : x < 4294967296) (n j : Nat) (hj : j < 32) : Nat.testBit (rorX (x : Int) n).toNat j = Nat.testBit x ((j + n) % 32) := by
  unfold rorX
  have s1 := shlX_U (x : Int) ((- ((n : Int) % 32)) % 32)
  have s2 := shrX_U (a := (x : Int)) ⟨by omega, by omega⟩ (32 - (- ((n : Int) % 32)) % 32)
  rw [u32_or _ _ s1.1 s1.2 s2.1 s2.2, Int.toNat_natCast, Nat.testBit_or]
  obtain ⟨m, hm⟩ : ∃ m : Nat, m = n % 32 := ⟨_, rfl⟩
  have e3 : shrX (x : Int) (32 - (- ((n : Int) % 32)) % 32) = ((x / 2 ^ (32 - (32 - m) % 32) : Nat) : Int) := by
    unfold shrX
    rw [show min (32 - (- ((n : Int) % 32)) % 32).toNat 32 = 32 - (32 - m) % 32 by omega]
    push_cast; rfl
  have e4 : shlX (x : Int) ((- ((n : Int) % 32)) % 32) = ((x * 2 ^ ((32 - m) % 32) % 2 ^ 32 : Nat) : Int) := by
    unfold shlX
    rw [show min ((- ((n : Int) % 32)) % 32).toNat 32 = (32 - m) % 32 by omega]
    rw [Int.natCast_emod, Int.natCast_mul, Int.natCast_pow]; rfl
  rw [e3, e4, Int.toNat_natCast, Int.toNat_natCast, Nat.testBit_mod_two_pow, Nat.testBit_mul_two_pow, Nat.testBit_div_two_pow]
  by_cases c : m = 0
  · have hhi : Nat.testBit x (j + 32) = false := big_bit hx (by omega)
    have e5 : (32 - m) % 32 = 0 := by omega
    rw [e5, show (j + n) % 32 = j by omega]
    simp only [Nat.sub_zero, Nat.zero_le, decide_true, hj, Bool.true_and, hhi, Bool.or_false]
  · have e5 : (32 - m) % 32 = 32 - m := by omega
    rw [e5, show 32 - (32 - m) = m by omega]
    by_cases d : j + m < 32
    · rw [show (j + n) % 32 = j + m by omega]
      have : ¬ (32 - m ≤ j) := by omega
      simp [this]
    · have hhi : Nat.testBit x (j + m) = false := big_bit hx (by omega)
      rw [show (j + n) % 32 = j - (32 - m) by omega]
      have : 32 - m ≤ j := by omega
      simp [this, hhi, hj]
theorem bit_eq {a b : Nat} (ha : a < 4294967296) (hb : b < 4294967296) (h : ∀ j, j < 32 → Nat.testBit a j = Nat.testBit b j) : a = b := by
  apply Nat.eq_of_testBit_eq
  intro j
  by_cases c : j < 32
  · exact h j c
  · rw [big_bit ha (by omega), big_bit hb (by omega)]
theorem ror1_bit {y : Nat} (hy : y < 4294967296) (j : Nat) (hj : j < 32) : Nat.testBit (bits .or .u32 ((y : Int) / 2) ((y : Int) * 2147483648 % 4294967296)).toNat j = Nat.testBit y ((j + 1) % 32) := by
  rw [u32_or _ _ (by omega) (by omega) (by omega) (by omega), Int.toNat_natCast, Nat.testBit_or]
  have e1 : ((y : Int) / 2).toNat = y / 2 ^ 1 := by omega
  have e2 : ((y : Int) * 2147483648 % 4294967296).toNat = y * 2 ^ 31 % 2 ^ 32 := by omega
  rw [e1, e2, Nat.testBit_mod_two_pow, Nat.testBit_mul_two_pow, Nat.testBit_div_two_pow]
  by_cases c : j = 31
  · subst c
    have hhi : Nat.testBit y (31 + 1) = false := Nat.testBit_lt_two_pow hy
    simp [hhi]
  · have : ¬ (31 ≤ j) := by omega
    rw [show (j + 1) % 32 = j + 1 by omega]
    simp [this]
theorem rorX_zero {x : Int} (h : U x) : rorX x 0 = x := by
  unfold U at h
  obtain ⟨n, rfl⟩ := Int.eq_ofNat_of_zero_le h.1
  have u := rorX_U (a := (n : Int)) h (0 : Nat)
  have e : (rorX (n : Int) (0 : Nat)).toNat = n := bit_eq (by have := u.1; have := u.2; omega) (by omega) (fun j hj => by rw [rorX_bit (by omega) 0 j hj, show (j + 0) % 32 = j by omega])
  have := u.1
  show rorX (n : Int) (0 : Nat) = _
  omega
theorem rorX_succ {x : Int} (h : U x) (k : Nat) : bits .or .u32 (rorX x k / 2) (rorX x k * 2147483648 % 4294967296) = rorX x (k + 1 : Nat) := by
  have u := rorX_U h (k : Int)
  have u' := rorX_U h ((k + 1 : Nat) : Int)
  have l := bits_lo_u32 .or (rorX x k / 2) (rorX x k * 2147483648 % 4294967296)
  have l' := bits_hi_u32 .or (rorX x k / 2) (rorX x k * 2147483648 % 4294967296)
  unfold U at h u u'
  obtain ⟨n, rfl⟩ := Int.eq_ofNat_of_zero_le h.1
  obtain ⟨y, hy⟩ := Int.eq_ofNat_of_zero_le u.1
  have e : (bits .or .u32 (rorX (n : Int) k / 2) (rorX (n : Int) k * 2147483648 % 4294967296)).toNat = (rorX (n : Int) (k + 1 : Nat)).toNat := by
    refine bit_eq (by omega) (by omega) ?_
    intro j hj
    rw [rorX_bit (by omega) (k + 1) j hj]
    have := rorX_bit (x := n) (by omega) k ((j + 1) % 32) (by omega)
    rw [hy] at this ⊢
    rw [ror1_bit (by omega) j hj]
    rw [Int.toNat_natCast] at this
    rw [this]
    congr 1
    omega
  omega
theorem shN_shiftS {op x : Int} (cf : Bool) (h : U x) (k : Nat) : shN op x cf (k + 1) = shiftS op x (k + 1 : Nat) := by
  have hc : (op = 1 ∨ op = 14) ∨ (¬ (op = 1 ∨ op = 14) ∧ (op = 2 ∨ op = 15)) ∨ (¬ (op = 1 ∨ op = 14) ∧ ¬ (op = 2 ∨ op = 15) ∧ (op = 3 ∨ op = 16)) ∨ (¬ (op = 1 ∨ op = 14) ∧ ¬ (op = 2 ∨ op = 15) ∧ ¬ (op = 3 ∨ op = 16)) := by omega
  rcases hc with c | ⟨c1, c⟩ | ⟨c1, c2, c⟩ | ⟨c1, c2, c3⟩
  · have hv : ∀ k : Nat, (shN op x cf k).1 = shlX x k := by
      intro k
      induction k with
      | zero => exact (shlX_zero h).symm
      | succ k ih => rw [shlX_succ, ← ih]; show (sh1 op _).1 = _; unfold sh1; rw [if_pos c]
    show sh1 op _ = _
    unfold sh1 shiftS shiftL
    rw [if_pos c, if_pos c, hv, shlX_succ]
    refine Prod.ext rfl ?_
    dsimp only
    rw [show ((k + 1 : Nat) : Int) - 1 = k by omega]
    by_cases d : ((k + 1 : Nat) : Int) ≤ 32
    · rw [decide_eq_true d, Bool.true_and]
    · rw [decide_eq_false d, Bool.false_and]
      have : shlX x (k : Int) = 0 := by
        unfold shlX
        rw [show min (k : Int).toNat 32 = 32 by omega]
        have : (2 : Int) ^ 32 = 4294967296 := by decide
        rw [this]; omega
      rw [this]; rfl
  · unfold U at h
    have hv : ∀ k : Nat, (shN op x cf k).1 = shrX x k := by
      intro k
      induction k with
      | zero => exact (shrX_zero _).symm
      | succ k ih => rw [shrX_succ (by omega), ← ih]; show (sh1 op _).1 = _; unfold sh1; rw [if_neg c1, if_pos c]
    show sh1 op _ = _
    unfold sh1 shiftS shiftR
    rw [if_neg c1, if_pos c, if_neg c1, if_pos c, hv, shrX_succ (by omega)]
    rw [show ((k + 1 : Nat) : Int) - 1 = k by omega]
  · have hs := sg_range h
    have hv : ∀ k : Nat, (shN op x cf k).1 = shrX (sg x) k % 4294967296 := by
      intro k
      induction k with
      | zero =>
        show x = shrX (sg x) (0 : Int) % 4294967296
        rw [shrX_zero]; unfold U at h; unfold sg; split <;> omega
      | succ k ih => rw [shrX_succ (by omega)]; show (sh1 op _).1 = _; unfold sh1; rw [if_neg c1, if_neg c2, if_pos c, ih, sg_mod (shrX_R hs k)]
    show sh1 op _ = _
    unfold sh1 shiftS shiftA
    rw [if_neg c1, if_neg c2, if_pos c, if_neg c1, if_neg c2, if_pos c, hv, sg_mod (shrX_R hs k), shrX_succ (by omega)]
    rw [show ((k + 1 : Nat) : Int) - 1 = k by omega, i32_and1, u32_and1]
    rw [show shrX (sg x) k % 4294967296 % 2 = shrX (sg x) k % 2 by omega]
  · have hv : ∀ k : Nat, (shN op x cf k).1 = rorX x k := by
      intro k
      induction k with
      | zero => exact (rorX_zero h).symm
      | succ k ih => rw [← rorX_succ h, ← ih]; show (sh1 op _).1 = _; unfold sh1; rw [if_neg c1, if_neg c2, if_neg c3]
    show sh1 op _ = _
    unfold sh1 shiftS shiftO
    rw [if_neg c1, if_neg c2, if_neg c3, if_neg c1, if_neg c2, if_neg c3, hv, rorX_succ h]
theorem shifted_shN (s : Sp) (op a : Int) (bn d : Nat) (h : U a) : s.shifted op a bn d = (Sp.sign { s with c := { s.c with cf := (shN op a s.c.cf bn).2 } } (shN op a s.c.cf bn).1).setR d (shN op a s.c.cf bn).1 := by
  unfold Sp.shifted
  cases bn with
  | zero => rw [if_pos (show ((0 : Nat) : Int) = 0 from rfl)]; rfl
  | succ k => rw [if_neg (by omega), shN_shiftS s.c.cf h k]
end Go.Proofs.Ytpihjhfaeloapaa
