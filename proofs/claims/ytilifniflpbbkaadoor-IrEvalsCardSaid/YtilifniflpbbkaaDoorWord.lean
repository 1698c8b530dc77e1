/- Plain facts on numbers of 32 bits: the walk's spellings of Go's int32 operations said by BitVec 32. No program in sight. -/
import Derived.WalkKit
namespace Go.Proofs.Wd
open Go.RowKit

/-- bits of a number -/
def O (a : Int) : BitVec 32 := BitVec.ofInt 32 a
/-- the number of bits -/
def T (x : BitVec 32) : Int := x.toInt
/-- a number of 32 bits -/
def R (a : Int) : Prop := -2147483648 ≤ a ∧ a ≤ 2147483647

theorem T_range (x : BitVec 32) : R (T x) := by
  have h1 := BitVec.le_toInt x; have h2 := BitVec.toInt_lt (x := x)
  unfold R T; constructor <;> simp at h1 h2 <;> omega
theorem O_T (x : BitVec 32) : O (T x) = x := by unfold O T; simp
theorem T_O {a : Int} (h : R a) : T (O a) = a := by
  unfold T O; rw [BitVec.toInt_ofInt]; unfold R at h; unfold Int.bmod; simp; split <;> omega
theorem T_inj {x y : BitVec 32} : T x = T y ↔ x = y := ⟨fun h => by rw [← O_T x, ← O_T y, h], fun h => by rw [h]⟩
theorem wrap32_T (n : Int) : wrap32 n = T (O n) := by
  unfold T O wrap32; rw [BitVec.toInt_ofInt]; unfold Int.bmod; simp; split <;> omega
theorem O_wrap32 (n : Int) : O (wrap32 n) = O n := by rw [wrap32_T, O_T]
theorem wrap_T (n : Int) : IntKind.i32.wrap n = T (O n) := by
  rw [← wrap32_T, IntKind.wrap_i32]; unfold wrap32; rfl
theorem O_add (a b : Int) : O (a + b) = O a + O b := by unfold O; rw [BitVec.ofInt_add]
theorem O_mul (a b : Int) : O (a * b) = O a * O b := by unfold O; rw [BitVec.ofInt_mul]
theorem O_neg (a : Int) : O (-a) = - O a := by unfold O; rw [BitVec.ofInt_neg]
theorem O_sub (a b : Int) : O (a - b) = O a - O b := by rw [Int.sub_eq_add_neg, O_add, O_neg, BitVec.sub_eq_add_neg]
theorem O_nat (n : Nat) : O (n : Int) = BitVec.ofNat 32 n := by unfold O; rw [BitVec.ofInt_natCast]
theorem O_toNat (x : BitVec 32) : O (x.toNat : Int) = x := by rw [O_nat, BitVec.ofNat_toNat]; simp
theorem bits_and (a b : Int) : bits .and .i32 a b = T (O a &&& O b) := by
  show IntKind.i32.wrap ((O a &&& O b).toNat : Int) = _; rw [wrap_T, O_toNat]
theorem bits_or (a b : Int) : bits .or .i32 a b = T (O a ||| O b) := by
  show IntKind.i32.wrap ((O a ||| O b).toNat : Int) = _; rw [wrap_T, O_toNat]
theorem bits_xor (a b : Int) : bits .xor .i32 a b = T (O a ^^^ O b) := by
  show IntKind.i32.wrap ((O a ^^^ O b).toNat : Int) = _; rw [wrap_T, O_toNat]
theorem bits_andNot (a b : Int) : bits .andNot .i32 a b = T (O a &&& ~~~ O b) := by
  show IntKind.i32.wrap ((O a &&& ~~~ O b).toNat : Int) = _; rw [wrap_T, O_toNat]

/-- the five lowest bits -/
def five (b : Int) : Nat := (O b &&& 31#32).toNat
theorem five_lt (b : Int) : five b < 32 := by
  unfold five; rw [BitVec.toNat_and]; exact Nat.lt_of_le_of_lt Nat.and_le_right (by decide)
theorem and31 (b : Int) : bits .and .i32 b 31 = (five b : Int) := by
  rw [bits_and]; have h := five_lt b; unfold five at h ⊢; unfold T
  rw [BitVec.toInt_eq_toNat_of_lt (by have : O 31 = 31#32 := by decide
                                      rw [this]; omega)]; rfl
theorem and31_range (b : Int) : 0 ≤ bits .and .i32 b 31 ∧ bits .and .i32 b 31 ≤ 31 := by
  rw [and31]; have := five_lt b; omega
theorem O_pow (k : Nat) : O (2 ^ k) = BitVec.twoPow 32 k := by
  have : (2 ^ k : Int) = ((2 ^ k : Nat) : Int) := by simp
  rw [this, O_nat]; apply BitVec.eq_of_toNat_eq; simp [BitVec.toNat_twoPow]
theorem shl_T (a : Int) (k : Nat) : IntKind.i32.wrap (a * 2 ^ k) = T (O a <<< k) := by
  rw [wrap_T, O_mul, O_pow, BitVec.shiftLeft_eq_mul_twoPow]
theorem toNat_O (a : Int) : ((O a).toNat : Int) = a % 4294967296 := by
  unfold O; simp [BitVec.toNat_ofInt]; omega
theorem shr_T (a : Int) (k : Nat) : wrap32 (a % 4294967296 / 2 ^ k) = T (O a >>> k) := by
  rw [wrap32_T, ← toNat_O]
  have : (((O a).toNat : Int) / 2 ^ k) = (((O a).toNat / 2 ^ k : Nat) : Int) := by simp
  rw [this, O_nat]; congr 1; apply BitVec.eq_of_toNat_eq
  rw [BitVec.toNat_ofNat, BitVec.toNat_ushiftRight, Nat.shiftRight_eq_div_pow]
  exact Nat.mod_eq_of_lt (Nat.lt_of_le_of_lt (Nat.div_le_self _ _) (O a).isLt)
theorem sar_T {a : Int} (h : R a) (k : Nat) : a / 2 ^ k = T ((O a).sshiftRight k) := by
  unfold T; rw [BitVec.toInt_sshiftRight, Int.shiftRight_eq_div_pow]
  have := T_O h; unfold T at this; rw [this]; simp

/-! the functions, on numbers -/
def yes (b : Bool) : Int := if b then 1 else 0
def some' (a : Int) : Int := yes (O a != 0#32)
def add (a b : Int) : Int := T (O a + O b)
def sub (a b : Int) : Int := T (O a - O b)
def mul (a b : Int) : Int := T (O a * O b)
def and (a b : Int) : Int := T (O a &&& O b)
def or (a b : Int) : Int := T (O a ||| O b)
def xor (a b : Int) : Int := T (O a ^^^ O b)
def shl (a b : Int) : Int := T (O a <<< five b)
def shr (a b : Int) : Int := T (O a >>> five b)
def sar (a b : Int) : Int := a / 2 ^ five b
def neg (a : Int) : Int := T (- O a)
def not (a : Int) : Int := T (~~~ O a)
def eq (a b : Int) : Int := yes (O a == O b)
def lt (a b : Int) : Int := yes (decide (a < b))
def below (a b : Int) : Int := yes (decide (a % 4294967296 < b % 4294967296))
def pick (c a b : Int) : Int := T (if O c = 0#32 then O b else O a)
def quo (a b : Int) : Int := if b = 0 then 0 else wrap32 (wrap64 (a.tdiv b))
def rem (a b : Int) : Int := if b = 0 then 0 else wrap32 (a.tmod b)
def choose (c a b : Int) : Int := if c = 0 then b else a
/-- the document's answer for two numbers -/
def ask (op a b : Int) : Int :=
  if op = 6 then add a b else if op = 7 then sub a b else if op = 8 then mul a b else if op = 9 then and a b else if op = 10 then or a b else
  if op = 11 then xor a b else if op = 12 then shl a b else if op = 13 then shr a b else if op = 14 then sar a b else if op = 19 then yes (a == b) else
  if op = 20 then lt a b else if op = 21 then below a b else if op = 17 then quo a b else if op = 18 then rem a b else 0

theorem O_yes (b : Bool) : O (yes b) = if b then 1#32 else 0#32 := by cases b <;> decide
theorem yes_R (b : Bool) : R (yes b) := by cases b <;> unfold R yes <;> simp
theorem some_eq (x : BitVec 32) : (x ||| -x) >>> 31 = if x = 0#32 then 0#32 else 1#32 := by
  by_cases h : x = 0#32
  · subst h; decide
  · rw [if_neg h]
    have hm : (x ||| -x).msb = true := by
      rw [BitVec.msb_or, BitVec.msb_neg]
      by_cases h2 : x = BitVec.intMin 32
      · subst h2; decide
      · cases hx : x.msb <;> simp [h, h2]
    apply BitVec.eq_of_toNat_eq
    rw [BitVec.toNat_ushiftRight, Nat.shiftRight_eq_div_pow]
    rw [BitVec.msb_eq_decide] at hm
    have := (x ||| -x).isLt
    simp only [decide_eq_true_eq] at hm
    show _ / 2 ^ 31 = 1
    omega
theorem some_T (a : Int) : T ((O a ||| - O a) >>> 31) = some' a := by
  rw [some_eq]; unfold some' yes
  by_cases h : O a = 0#32 <;> simp [h] <;> decide
theorem eq_T (a b : Int) : wrap32 (1 - some' (T (O a ^^^ O b))) = eq a b := by
  unfold some' eq; rw [O_T]
  have : (O a ^^^ O b != 0#32) = !(O a == O b) := by
    by_cases h : O a = O b
    · simp [h]
    · have h2 : (O a ^^^ O b) ≠ 0#32 := fun he => h (BitVec.xor_eq_zero_iff.mp he)
      rw [bne_iff_ne.mpr h2, beq_eq_false_iff_ne.mpr h]; rfl
  rw [this]; cases (O a == O b) <;> simp [yes, wrap32]
theorem pick_T (c a b : Int) : bits .or .i32 (bits .and .i32 a (wrap32 (- some' c))) (bits .andNot .i32 b (wrap32 (- some' c))) = pick c a b := by
  rw [bits_or, bits_and, bits_andNot, O_T, O_T, O_wrap32]; unfold pick some'
  by_cases h : O c = 0#32
  · have : (O c != 0#32) = false := by simp [h]
    rw [this, if_pos h]
    have : O (- yes false) = 0#32 := by decide
    rw [this, BitVec.and_zero, BitVec.zero_or]
    have : ~~~(0#32) = BitVec.allOnes 32 := by decide
    rw [this, BitVec.and_allOnes]
  · have : (O c != 0#32) = true := by simp [h]
    rw [this, if_neg h]
    have : O (- yes true) = BitVec.allOnes 32 := by decide
    rw [this, BitVec.and_allOnes]
    have : ~~~(BitVec.allOnes 32) = 0#32 := by decide
    rw [this, BitVec.and_zero, BitVec.or_zero]
theorem sign64 (d : Int) (h : -9223372036854775808 ≤ d) (h2 : d ≤ 9223372036854775807) : wrap32 (IntKind.u64.wrap d / 9223372036854775808) = yes (decide (d < 0)) := by
  rw [IntKind.wrap_u64]; unfold wrap32 yes
  by_cases hd : d < 0
  · rw [decide_eq_true hd, if_pos rfl]; omega
  · rw [decide_eq_false hd, if_neg (by simp)]; omega
theorem below_T (a b : Int) : wrap32 (IntKind.u64.wrap (a % 4294967296 - b % 4294967296) / 9223372036854775808) = below a b := by
  rw [sign64 _ (by omega) (by omega)]; unfold below; congr 1
  rw [decide_eq_decide]; omega
theorem shl_w (a b : Int) : wrap32 (a * 2 ^ (bits .and .i32 b 31).toNat) = shl a b := by
  rw [and31, wrap32_T, ← wrap_T, Int.toNat_natCast, shl_T]; rfl
theorem shr_w (a b : Int) : wrap32 (a % 4294967296 / 2 ^ (bits .and .i32 b 31).toNat) = shr a b := by
  rw [and31, Int.toNat_natCast, shr_T]; rfl
theorem sar_w (a b : Int) : a / 2 ^ (bits .and .i32 b 31).toNat = sar a b := by
  rw [and31, Int.toNat_natCast]; rfl
theorem lt_w (a b : Int) (ha : R a) (hb : R b) : wrap32 (IntKind.u64.wrap (a - b) / 9223372036854775808) = lt a b := by
  unfold R at ha hb; rw [sign64 _ (by omega) (by omega)]; unfold lt
  have : decide (a - b < 0) = decide (a < b) := decide_eq_decide.mpr (by omega)
  rw [this]
theorem not_w (a : Int) : bits .xor .i32 (-1) a = not a := by
  rw [bits_xor]; unfold not
  have : O (-1) = BitVec.allOnes 32 := by decide
  rw [this, BitVec.allOnes_xor]
theorem some_w (a : Int) : shr (bits .or .i32 a (wrap32 (-a))) 31 = some' a := by
  rw [bits_or, O_wrap32, O_neg]; unfold shr; rw [O_T]
  have : five 31 = 31 := by decide
  rw [this, some_T]
theorem eq_w (a b : Int) : wrap32 (1 - some' (bits .xor .i32 a b)) = eq a b := by rw [bits_xor, eq_T]
theorem O_zero {x : Int} (h : R x) : O x = 0#32 ↔ x = 0 := by
  constructor
  · intro e; rw [← T_O h, e]; decide
  · rintro rfl; decide
theorem O_inj {x y : Int} (h : R x) (h2 : R y) : O x = O y ↔ x = y := by
  constructor
  · intro e; rw [← T_O h, ← T_O h2, e]
  · rintro rfl; rfl
theorem pick_choose {c a b : Int} (hc : R c) (ha : R a) (hb : R b) : pick c a b = choose c a b := by
  unfold pick choose
  by_cases h : c = 0
  · rw [if_pos ((O_zero hc).mpr h), if_pos h, T_O hb]
  · rw [if_neg (fun e => h ((O_zero hc).mp e)), if_neg h, T_O ha]
theorem eq_yes {a b : Int} (ha : R a) (hb : R b) : eq a b = yes (a == b) := by
  unfold eq
  have : (O a == O b) = (a == b) := by
    rw [Bool.eq_iff_iff, beq_iff_eq, beq_iff_eq]; exact O_inj ha hb
  rw [this]
theorem wf_R {a : Int} (h : (Lit.int .i32 a).wf = true) : R a := by
  simp [Lit.wf, IntKind.min, IntKind.max, IntKind.signed, IntKind.bits] at h; unfold R; omega
theorem wf_64 {a : Int} (h : (Lit.int .i64 a).wf = true) : -9223372036854775808 ≤ a ∧ a ≤ 9223372036854775807 := by
  simp [Lit.wf, IntKind.min, IntKind.max, IntKind.signed, IntKind.bits] at h; omega
/-! laws -/
theorem five_eq (b : Int) : (five b : Int) = b % 32 := by
  unfold five
  have h := toNat_O b
  rw [BitVec.toNat_and, show (31#32).toNat = 2 ^ 5 - 1 by decide, Nat.and_two_pow_sub_one_eq_mod]
  omega
theorem five_small {k : Int} (h0 : 0 ≤ k) (h1 : k ≤ 31) : five k = k.toNat := by have := five_eq k; omega
theorem five_same (b : Int) : five (b % 32) = five b := by have := five_eq b; have := five_eq (b % 32); omega
theorem l_sub_add (a b : Int) (ha : R a) : sub (add a b) b = a := by
  unfold sub add; rw [O_T, BitVec.add_sub_cancel, T_O ha]
theorem l_add_comm (a b : Int) : add a b = add b a := by unfold add; rw [BitVec.add_comm]
theorem l_mul_add (a b c : Int) : mul a (add b c) = add (mul a b) (mul a c) := by
  unfold mul add; rw [O_T, O_T, O_T, BitVec.mul_add]
theorem l_neg (a : Int) : neg a = add (not a) 1 := by
  unfold neg add not; rw [O_T, BitVec.neg_eq_not_add]; rfl
theorem l_xor (a b : Int) (ha : R a) : xor (xor a b) b = a := by
  unfold xor; rw [O_T, BitVec.xor_assoc, BitVec.xor_self, BitVec.xor_zero, T_O ha]
theorem wrap32_64 (n : Int) : wrap32 (wrap64 n) = wrap32 n := by unfold wrap32 wrap64; omega
theorem l_div (a b : Int) (ha : R a) (hb : b ≠ 0) : add (mul (quo a b) b) (rem a b) = a := by
  unfold add mul quo rem
  rw [if_neg hb, if_neg hb, wrap32_64, O_wrap32, O_wrap32, O_T, ← O_mul, ← O_add, Int.mul_comm, Int.mul_tdiv_add_tmod, T_O ha]
theorem l_lt (a b : Int) (ha : R a) (hb : R b) : wrap32 (wrap32 (lt a b + lt b a) + eq a b) = 1 := by
  rw [eq_yes ha hb]; unfold lt yes wrap32
  rcases Int.lt_trichotomy a b with h | h | h
  · simp [h, Int.not_lt.mpr (Int.le_of_lt h), Int.ne_of_lt h]
  · subst h; simp
  · simp [h, Int.not_lt.mpr (Int.le_of_lt h), Int.ne_of_gt h]
theorem l_below (a b : Int) (ha : R a) (hb : R b) : wrap32 (wrap32 (below a b + below b a) + eq a b) = 1 := by
  rw [eq_yes ha hb]; unfold below yes wrap32
  have hab : (a == b) = (a % 4294967296 == b % 4294967296) := by
    unfold R at ha hb; rw [Bool.eq_iff_iff, beq_iff_eq, beq_iff_eq]; omega
  rw [hab]
  rcases Int.lt_trichotomy (a % 4294967296) (b % 4294967296) with h | h | h
  · simp [h, Int.not_lt.mpr (Int.le_of_lt h), Int.ne_of_lt h]
  · rw [h]; simp
  · simp [h, Int.not_lt.mpr (Int.le_of_lt h), Int.ne_of_gt h]
theorem and_or_not (x y : BitVec 32) : (x &&& y) ||| (x &&& ~~~ y) = x := by
  apply BitVec.eq_of_getLsbD_eq; intro i hi
  simp only [BitVec.getLsbD_or, BitVec.getLsbD_and, BitVec.getLsbD_not]
  cases x.getLsbD i <;> cases y.getLsbD i <;> simp [hi]
theorem l_or (a b : Int) (ha : R a) : or (and a b) (and a (not b)) = a := by
  unfold or and not; rw [O_T, O_T, O_T, and_or_not, T_O ha]
theorem l_shl (a b : Int) : shl a b = shl a (b % 32) := by unfold shl; rw [five_same]
theorem l_shr (a b : Int) : shr a b = shr a (b % 32) := by unfold shr; rw [five_same]
theorem l_sar (a b : Int) : sar a b = sar a (b % 32) := by unfold sar; rw [five_same]
theorem l_shl0 (a : Int) (ha : R a) : shl a 0 = a := by
  unfold shl; rw [show five 0 = 0 by decide]; simp [T_O ha]
theorem l_shl1 (a : Int) : shl a 1 = add a a := by
  unfold shl add; rw [show five 1 = 1 by decide]; congr 1
  apply BitVec.eq_of_toNat_eq; rw [BitVec.toNat_shiftLeft, BitVec.toNat_add, Nat.shiftLeft_eq]; omega
theorem shl_shr (x : BitVec 32) (k : Nat) : (x <<< k) >>> k = x &&& (BitVec.allOnes 32 >>> k) := by
  apply BitVec.eq_of_getLsbD_eq; intro i hi
  simp only [BitVec.getLsbD_ushiftRight, BitVec.getLsbD_shiftLeft, BitVec.getLsbD_and, BitVec.getLsbD_allOnes]
  by_cases h : k + i < 32
  · simp [h]
  · simp [h]
theorem l_shlr (a k : Int) : shr (shl a k) k = and a (shr (-1) k) := by
  unfold shr shl and; rw [O_T, O_T, shl_shr]; rfl
theorem l_sar31 (a : Int) (ha : R a) : lt (sar a 31) 0 = lt a 0 := by
  unfold lt sar R at *; rw [show five 31 = 31 by decide]
  have : decide (a / 2 ^ 31 < 0) = decide (a < 0) := decide_eq_decide.mpr (by omega)
  rw [this]
theorem sar_R (a k : Int) (ha : R a) : R (sar a k) := by
  unfold sar; rw [sar_T ha]; exact T_range _
theorem l_shl_part (a k : Int) (h0 : 0 ≤ k) (h1 : k ≤ 31) : shl (shl a (k / 2)) (k - k / 2) = shl a k := by
  unfold shl; rw [O_T, ← BitVec.shiftLeft_add, five_small h0 h1, five_small (by omega) (by omega), five_small (by omega) (by omega)]
  congr 2; omega
theorem l_pick_mask (c a b : Int) (hc : R c) (ha : R a) (hb : R b) : choose c a b = or (and b (neg (eq c 0))) (and a (not (neg (eq c 0)))) := by
  rw [eq_yes hc (by unfold R; omega)]; unfold choose or and neg not
  rw [O_T, O_T, O_T, O_T]
  by_cases h : c = 0
  · subst h; rw [if_pos rfl]
    have : - O (yes ((0 : Int) == 0)) = BitVec.allOnes 32 := by decide
    rw [this, BitVec.and_allOnes, show ~~~(BitVec.allOnes 32) = 0#32 by decide, BitVec.and_zero, BitVec.or_zero, T_O hb]
  · rw [if_neg h]
    have : (c == 0) = false := by simpa using h
    rw [this]
    have : - O (yes false) = 0#32 := by decide
    rw [this, BitVec.and_zero, show ~~~(0#32) = BitVec.allOnes 32 by decide, BitVec.and_allOnes, BitVec.zero_or, T_O ha]
theorem l_pick_eq (c a b : Int) (hc : R c) : choose (eq c 0) b a = choose c a b := by
  rw [eq_yes hc (by unfold R; omega)]; unfold choose yes
  by_cases h : c = 0
  · subst h; simp
  · have : (c == 0) = false := by simpa using h
    rw [this]; simp [h]
end Go.Proofs.Wd
