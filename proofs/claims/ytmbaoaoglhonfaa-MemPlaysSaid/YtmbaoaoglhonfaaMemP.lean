/- Plain facts on words and their bytes. -/
import Derived.Test.YtmbaoaoglhonfaaMemR
namespace Go.Proofs.Ytmbaoaoglhonfaa
open Go.RowKit On
theorem and8 (a b c d : Nat) (hb : b < 256) (hd : d < 256) : (256 * a + b) &&& (256 * c + d) = 256 * (a &&& c) + (b &&& d) := by
  apply Nat.eq_of_testBit_eq; intro j
  have hbd : b &&& d < 2 ^ 8 := Nat.and_lt_two_pow _ (by omega)
  have e : (256 : Nat) = 2 ^ 8 := rfl
  rw [Nat.testBit_and, e, Nat.testBit_two_pow_mul_add _ (by omega), Nat.testBit_two_pow_mul_add _ (by omega), Nat.testBit_two_pow_mul_add _ hbd]
  split <;> rw [Nat.testBit_and]
theorem or8 (a b c d : Nat) (hb : b < 256) (hd : d < 256) : (256 * a + b) ||| (256 * c + d) = 256 * (a ||| c) + (b ||| d) := by
  apply Nat.eq_of_testBit_eq; intro j
  have hbd : b ||| d < 2 ^ 8 := Nat.or_lt_two_pow (by omega) (by omega)
  have e : (256 : Nat) = 2 ^ 8 := rfl
  rw [Nat.testBit_or, e, Nat.testBit_two_pow_mul_add _ (by omega), Nat.testBit_two_pow_mul_add _ (by omega), Nat.testBit_two_pow_mul_add _ hbd]
  split <;> rw [Nat.testBit_or]
def J (a b c d : Nat) : Nat := 256 * (256 * (256 * d + c) + b) + a
theorem J_and {a b c d x y z u : Nat} (h1 : a < 256) (h2 : b < 256) (h3 : c < 256) (k1 : x < 256) (k2 : y < 256) (k3 : z < 256) : J a b c d &&& J x y z u = J (a &&& x) (b &&& y) (c &&& z) (d &&& u) := by
  unfold J; rw [and8 _ _ _ _ h1 k1, and8 _ _ _ _ h2 k2, and8 _ _ _ _ h3 k3]
theorem J_or {a b c d x y z u : Nat} (h1 : a < 256) (h2 : b < 256) (h3 : c < 256) (k1 : x < 256) (k2 : y < 256) (k3 : z < 256) : J a b c d ||| J x y z u = J (a ||| x) (b ||| y) (c ||| z) (d ||| u) := by
  unfold J; rw [or8 _ _ _ _ h1 k1, or8 _ _ _ _ h2 k2, or8 _ _ _ _ h3 k3]
theorem and255 {x : Nat} (h : x < 256) : x &&& 255 = x := by
  have := Nat.and_two_pow_sub_one_eq_mod x 8
  rw [show (255 : Nat) = 2 ^ 8 - 1 from rfl, this]; omega
/-- a byte of a word turned: 'n &^ (255 << 8k) | b << 8k' -/
def turned (n b : Int) (k : Nat) : Int := bits .or .u32 (bits .andNot .u32 n (255 * 2 ^ (8 * k) % 4294967296)) (b * 2 ^ (8 * k) % 4294967296)
theorem turned_eq (n b : Int) (hn : 0 ≤ n ∧ n < 4294967296) (hb : 0 ≤ b ∧ b ≤ 255) (k : Nat) (hk : k < 4) : turned n b k = n - byteAt n k * 2 ^ (8 * k) + b * 2 ^ (8 * k) := by
  obtain ⟨N, rfl⟩ := Int.eq_ofNat_of_zero_le hn.1
  obtain ⟨B, rfl⟩ := Int.eq_ofNat_of_zero_le hb.1
  have hB : B < 256 := by omega
  obtain ⟨a, b, c, d, ha, hb, hc, hd, hN⟩ : ∃ a b c d : Nat, a < 256 ∧ b < 256 ∧ c < 256 ∧ d < 256 ∧ N = J a b c d :=
    ⟨N % 256, N / 256 % 256, N / 65536 % 256, N / 16777216, by omega, by omega, by omega, by omega, by unfold J; omega⟩
  unfold turned byteAt
  have hNb : N < 4294967296 := by omega
  match k, hk with
  | 0, _ =>
    have e1 : ((255 : Int) * 2 ^ (8 * 0) % 4294967296) = ((255 : Nat) : Int) := by decide
    have e2 : ((B : Int) * 2 ^ (8 * 0) % 4294967296) = ((J B 0 0 0 : Nat) : Int) := by unfold J; simp; omega
    rw [e1, e2, u32_andNot_nat N _ hNb (by omega), u32_or_nat _ _ (Nat.lt_of_le_of_lt Nat.and_le_left hNb) (by unfold J; omega)]
    rw [hN, show 4294967295 - 255 = J 0 255 255 255 by decide, J_and ha hb hc (by omega) (by omega) (by omega), and255 hb, and255 hc, and255 hd]
    simp only [Nat.and_zero]
    rw [J_or (by omega) hb hc hB (by omega) (by omega)]
    simp only [Nat.zero_or, Nat.or_zero]
    unfold J; simp; omega
  | 1, _ =>
    have e1 : ((255 : Int) * 2 ^ (8 * 1) % 4294967296) = ((65280 : Nat) : Int) := by decide
    have e2 : ((B : Int) * 2 ^ (8 * 1) % 4294967296) = ((J 0 B 0 0 : Nat) : Int) := by unfold J; simp; omega
    rw [e1, e2, u32_andNot_nat N _ hNb (by omega), u32_or_nat _ _ (Nat.lt_of_le_of_lt Nat.and_le_left hNb) (by unfold J; omega)]
    rw [hN, show 4294967295 - 65280 = J 255 0 255 255 by decide, J_and ha hb hc (by omega) (by omega) (by omega), and255 ha, and255 hc, and255 hd]
    simp only [Nat.and_zero]
    rw [J_or ha (by omega) hc (by omega) hB (by omega)]
    simp only [Nat.zero_or, Nat.or_zero]
    unfold J; simp; omega
  | 2, _ =>
    have e1 : ((255 : Int) * 2 ^ (8 * 2) % 4294967296) = ((16711680 : Nat) : Int) := by decide
    have e2 : ((B : Int) * 2 ^ (8 * 2) % 4294967296) = ((J 0 0 B 0 : Nat) : Int) := by unfold J; simp; omega
    rw [e1, e2, u32_andNot_nat N _ hNb (by omega), u32_or_nat _ _ (Nat.lt_of_le_of_lt Nat.and_le_left hNb) (by unfold J; omega)]
    rw [hN, show 4294967295 - 16711680 = J 255 255 0 255 by decide, J_and ha hb hc (by omega) (by omega) (by omega), and255 ha, and255 hb, and255 hd]
    simp only [Nat.and_zero]
    rw [J_or ha hb (by omega) (by omega) (by omega) hB]
    simp only [Nat.zero_or, Nat.or_zero]
    unfold J; simp; omega
  | 3, _ =>
    have e1 : ((255 : Int) * 2 ^ (8 * 3) % 4294967296) = ((4278190080 : Nat) : Int) := by decide
    have e2 : ((B : Int) * 2 ^ (8 * 3) % 4294967296) = ((J 0 0 0 B : Nat) : Int) := by unfold J; simp; omega
    rw [e1, e2, u32_andNot_nat N _ hNb (by omega), u32_or_nat _ _ (Nat.lt_of_le_of_lt Nat.and_le_left hNb) (by unfold J; omega)]
    rw [hN, show 4294967295 - 4278190080 = J 255 255 255 0 by decide, J_and ha hb hc (by omega) (by omega) (by omega), and255 ha, and255 hb, and255 hc]
    simp only [Nat.and_zero]
    rw [J_or ha hb hc (by omega) (by omega) (by omega)]
    simp only [Nat.zero_or, Nat.or_zero]
    unfold J; simp; omega
theorem getB_setB {f : Nat → Int} {a : Nat} {n : Int} (hn : 0 ≤ n ∧ n < 4294967296) : getB (setB f a 4 n) a 4 = n := by
  have h : ∀ j, j < 4 → setB f a 4 n (a + j) = byteAt n j := fun j hj => by unfold setB; rw [if_pos (by omega)]; congr 1; omega
  unfold getB getB getB getB getB
  rw [h 0 (by omega), h 1 (by omega), h 2 (by omega), h 3 (by omega)]
  unfold byteAt; simp; omega
theorem getB_upd {f : Nat → Int} {a : Nat} {n b : Int} (hn : 0 ≤ n ∧ n < 4294967296) (k : Nat) (hk : k < 4) : getB (upd (setB f a 4 n) (a + k) b) a 4 = n - byteAt n k * 2 ^ (8 * k) + b * 2 ^ (8 * k) := by
  have h : ∀ j, j < 4 → upd (setB f a 4 n) (a + k) b (a + j) = if j = k then b else byteAt n j := fun j hj => by
    by_cases e : j = k
    · subst e; rw [upd_self, if_pos rfl]
    · rw [upd_ne _ _ (by omega), if_neg e]; unfold setB; rw [if_pos (by omega)]; congr 1; omega
  unfold getB getB getB getB getB
  rw [h 0 (by omega), h 1 (by omega), h 2 (by omega), h 3 (by omega)]
  match k, hk with
  | 0, _ => unfold byteAt; simp; omega
  | 1, _ => unfold byteAt; simp; omega
  | 2, _ => unfold byteAt; simp; omega
  | 3, _ => unfold byteAt; simp; omega
end Go.Proofs.Ytmbaoaoglhonfaa
