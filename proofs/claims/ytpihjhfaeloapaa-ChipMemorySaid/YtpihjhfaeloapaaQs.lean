/- Push and Pop: plain laws. -/
import Derived.Test.YtpihjhfaeloapaaCp
namespace Go.Proofs.Ytpihjhfaeloapaa
open Go.RowKit On Th
theorem exec_push (mp : Value) (c : Ch) (f : Nat → Int) (imm : Int) : (c.sp mp ⟨39, 0, 0, 0, imm, 0⟩).exec f = ((c.sp mp ⟨39, 0, 0, 0, imm, 0⟩).push, pushF (c.sp mp ⟨39, 0, 0, 0, imm, 0⟩) f) := rfl
theorem exec_pop (mp : Value) (c : Ch) (f : Nat → Int) (imm : Int) : (c.sp mp ⟨40, 0, 0, 0, imm, 0⟩).exec f = ((c.sp mp ⟨40, 0, 0, 0, imm, 0⟩).pop f, f) := rfl
theorem storeUp_low (f : Nat → Int) (a : Int) (R l : List Int) (n : Nat) : Low f (storeUp f a R l n) := by
  induction n with
  | zero => exact Low.refl f
  | succ n ih => exact ih.trans (Low.setWord _ _ _)
theorem okSW_iff {a : Int} : okSW a = true ↔ 131072 ≤ a ∧ a % 4 = 0 ∧ a < 262144 := by unfold okSW; rw [decide_eq_true_eq]
theorem storeUp_word {f : Nat → Int} {a : Int} {R l : List Int} {n : Nat} (ok : ∀ k : Nat, k < n → okSW (a + 4 * k) = true) (hR : ∀ k, U (R.getD (l.getD k 0).toNat 0)) (k : Nat) (hk : k < n) :
    wordS (storeUp f a R l n) (a + 4 * k) = (R.getD (l.getD k 0).toNat 0, true) := by
  have h0 := okSW_iff.mp (ok k hk)
  rw [wordS_yes (by omega) h0.2.1 h0.2.2]
  congr 1
  induction n with
  | zero => omega
  | succ n ih =>
    have h1 := okSW_iff.mp (ok n (by omega))
    unfold storeUp
    rw [setWordS_yes h1.1 h1.2.1 h1.2.2]
    dsimp only
    by_cases e : k = n
    · subst e; exact setB_get (hR k)
    · rw [getB_congr (fun j _ h3 => setB_low (.inl (by omega)))]
      exact ih (fun j hj => ok j (by omega)) (by omega)
theorem badUp_no {a : Int} {n : Nat} (ok : ∀ k : Nat, k < n → okSW (a + 4 * k) = true) : badUp a n = false := by
  induction n with
  | zero => rfl
  | succ n ih => unfold badUp; rw [ih (fun k hk => ok k (by omega)), ok n (by omega)]; rfl
/-- the registers that are loaded -/
def setUp (R l : List Int) (v : Nat → Int) : Nat → List Int
  | 0 => R
  | k + 1 => (setUp R l v k).set (l.getD k 0).toNat (v k)
theorem popUp_regs {f : Nat → Int} {a : Int} {l : List Int} {s : Sp} {v : Nat → Int} {n : Nat} (hw : ∀ k : Nat, k < n → wordS f (a + 4 * k) = (v k, true)) (hl : ∀ k : Nat, k < n → l.getD k 0 ≠ 15) :
    popUp f a l s n = { s with c := { s.c with R := setUp s.c.R l v n } } := by
  induction n with
  | zero => rfl
  | succ n ih =>
    unfold popUp
    rw [ih (fun k hk => hw k (by omega)) (fun k hk => hl k (by omega))]
    unfold popStep
    rw [if_neg (hl n (by omega)), hw n (by omega)]
    unfold Sp.setR
    simp only [setUp, Bool.not_true, Bool.or_false]
theorem setUp_len (R l : List Int) (v : Nat → Int) (n : Nat) : (setUp R l v n).length = R.length := by
  induction n with
  | zero => rfl
  | succ n ih => unfold setUp; rw [List.length_set, ih]
/-- a register that is not named stays -/
theorem setUp_out {R l : List Int} {v : Nat → Int} {n r : Nat} (h : ∀ k, k < n → (l.getD k 0).toNat ≠ r) : (setUp R l v n).getD r 0 = R.getD r 0 := by
  induction n with
  | zero => rfl
  | succ n ih =>
    unfold setUp
    rw [List.getD_eq_getElem?_getD, List.getElem?_set_ne (h n (by omega)), ← List.getD_eq_getElem?_getD]
    exact ih (fun k hk => h k (by omega))
/-- one that is named is what was loaded, all being unlike -/
theorem setUp_in {R l : List Int} {v : Nat → Int} {n r k : Nat} (hk : k < n) (he : (l.getD k 0).toNat = r) (hr : r < R.length) (hu : ∀ j, j < n → j ≠ k → (l.getD j 0).toNat ≠ r) : (setUp R l v n).getD r 0 = v k := by
  induction n with
  | zero => omega
  | succ n ih =>
    unfold setUp
    by_cases e : k = n
    · subst e
      rw [he, List.getD_eq_getElem?_getD, List.getElem?_set_self (by rw [setUp_len]; exact hr)]
      rfl
    · rw [List.getD_eq_getElem?_getD, List.getElem?_set_ne (hu n (by omega) (fun h => e h.symm)), ← List.getD_eq_getElem?_getD]
      exact ih (by omega) (fun j hj => hu j (by omega))
end Go.Proofs.Ytpihjhfaeloapaa
