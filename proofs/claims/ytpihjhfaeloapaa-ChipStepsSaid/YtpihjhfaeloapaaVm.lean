/- MERGED by mergev.py: XQs XPp. -/
import Derived.Test.YtpihjhfaeloapaaVk
namespace Go.Proofs.Ytpihjhfaeloapaa
open Go.RowKit On Th
theorem exec_push (mp : Value) (c : Ch) (f : Nat → Int) (imm : Int) : (c.sp mp ⟨39, 0, 0, 0, imm, 0⟩).exec f = ((c.sp mp ⟨39, 0, 0, 0, imm, 0⟩).push, pushF (c.sp mp ⟨39, 0, 0, 0, imm, 0⟩) f) := rfl
theorem exec_pop (mp : Value) (c : Ch) (f : Nat → Int) (imm : Int) : (c.sp mp ⟨40, 0, 0, 0, imm, 0⟩).exec f = ((c.sp mp ⟨40, 0, 0, 0, imm, 0⟩).pop f, f) := rfl
theorem storeUp_low (f : Nat → Int) (a : Int) (R l : List Int) (n : Nat) : Low f (storeUp f a R l n) := by
  induction n with
  | zero => exact Low.refl f
  | succ n ih => exact ih.trans (Low.setWord _ _ _)
theorem okSW_iff {a : Int} : okSW a = true ↔ 131072 ≤ a ∧ a % 4 = 0 ∧ a < 262144 := by unfold okSW; rw [decide_eq_true_eq]
theorem storeUp_word {f : Nat → Int} {a : Int} {R l : List Int} {n : Nat} (ok : ∀ k : Nat, k < n → okSW (a + 4 * k) = true) (hR : ∀ k, U (R.getD (l.getD k 0).toNat 0)) (k : Nat) (hk : k < n) :
    wordS (storeUp f a R l n) (a + 4 * k) = (R.getD (l.getD k 0).toNat 0, true) := by
  have h0 := okSW_iff.mp (ok k hk)
  rw [wordS_yes (by omega) h0.2.1 h0.2.2]
  congr 1
  induction n with
  | zero => omega
  | succ n ih =>
    have h1 := okSW_iff.mp (ok n (by omega))
    unfold storeUp
    rw [setWordS_yes h1.1 h1.2.1 h1.2.2]
    dsimp only
    by_cases e : k = n
    · subst e; exact setB_get (hR k)
    · rw [getB_congr (fun j _ h3 => setB_low (.inl (by omega)))]
      exact ih (fun j hj => ok j (by omega)) (by omega)
theorem badUp_no {a : Int} {n : Nat} (ok : ∀ k : Nat, k < n → okSW (a + 4 * k) = true) : badUp a n = false := by
  induction n with
  | zero => rfl
  | succ n ih => unfold badUp; rw [ih (fun k hk => ok k (by omega)), ok n (by omega)]; rfl
/-- the registers that are loaded -/
def setUp (R l : List Int) (v : Nat → Int) : Nat → List Int
  | 0 => R
  | k + 1 => (setUp R l v k).set (l.getD k 0).toNat (v k)
theorem popUp_regs {f : Nat → Int} {a : Int} {l : List Int} {s : Sp} {v : Nat → Int} {n : Nat} (hw : ∀ k : Nat, k < n → wordS f (a + 4 * k) = (v k, true)) (hl : ∀ k : Nat, k < n → l.getD k 0 ≠ 15) :
    popUp f a l s n = { s with c := { s.c with R := setUp s.c.R l v n } } := by
  induction n with
  | zero => rfl
  | succ n ih =>
    unfold popUp
    rw [ih (fun k hk => hw k (by omega)) (fun k hk => hl k (by omega))]
    unfold popStep
    rw [if_neg (hl n (by omega)), hw n (by omega)]
    unfold Sp.setR
    simp only [setUp, Bool.not_true, Bool.or_false]
theorem setUp_len (R l : List Int) (v : Nat → Int) (n : Nat) : (setUp R l v n).length = R.length := by
  induction n with
  | zero => rfl
  | succ n ih => unfold setUp; rw [List.length_set, ih]
/-- a register that is not named stays -/
theorem setUp_out {R l : List Int} {v : Nat → Int} {n r : Nat} (h : ∀ k, k < n → (l.getD k 0).toNat ≠ r) : (setUp R l v n).getD r 0 = R.getD r 0 := by
  induction n with
  | zero => rfl
  | succ n ih =>
    unfold setUp
    rw [List.getD_eq_getElem?_getD, List.getElem?_set_ne (h n (by omega)), ← List.getD_eq_getElem?_getD]
    exact ih (fun k hk => h k (by omega))
/-- one that is named is what was loaded, all being unlike -/
theorem setUp_in {R l : List Int} {v : Nat → Int} {n r k : Nat} (hk : k < n) (he : (l.getD k 0).toNat = r) (hr : r < R.length) (hu : ∀ j, j < n → j ≠ k → (l.getD j 0).toNat ≠ r) : (setUp R l v n).getD r 0 = v k := by
  induction n with
  | zero => omega
  | succ n ih =>
    unfold setUp
    by_cases e : k = n
    · subst e
      rw [he, List.getD_eq_getElem?_getD, List.getElem?_set_self (by rw [setUp_len]; exact hr)]
      rfl
    · rw [List.getD_eq_getElem?_getD, List.getElem?_set_ne (hu n (by omega) (fun h => e h.symm)), ← List.getD_eq_getElem?_getD]
      exact ih (by omega) (fun j hj => hu j (by omega))
end Go.Proofs.Ytpihjhfaeloapaa
namespace Go.Proofs.Ytpihjhfaeloapaa
open Go.RowKit On Th
theorem bits_list {imm : Int} (h0 : 0 ≤ imm) (h1 : imm < 512) (last : Int) : listS imm last = (bitsTo imm 9).map (fun j => if j = 8 then last else j) := by
  have e : bitsTo imm 9 = bitsTo imm 8 ++ (if imm / 2 ^ 8 % 2 = 1 then [((8 : Nat) : Int)] else []) := rfl
  rw [e, List.map_append]
  unfold listS
  congr 1
  · rw [List.map_congr_left (g := id) (fun x hx => by have := bitsTo_mem imm 8 x hx; exact if_neg (by omega))]
    simp
  · have h2 : (2 : Int) ^ 8 = 256 := by decide
    rw [h2]
    by_cases c : imm / 256 = 1
    · rw [if_pos c, if_pos (by omega)]; rfl
    · rw [if_neg c, if_neg (by omega)]; rfl
theorem getD_map0 (l : List Int) (g : Int → Int) {k : Nat} (hk : k < l.length) : (l.map g).getD k 0 = g (l.getD k 0) := by
  rw [List.getD_eq_getElem?_getD, List.getD_eq_getElem?_getD, List.getElem?_map, List.getElem?_eq_getElem hk]; rfl
def okR (f : Nat → Int) (push : Bool) (a : Int) : Bool := if push then okSW a else (wordS f a).2
def badR (f : Nat → Int) (push : Bool) (a : Int) : Nat → Bool
  | 0 => false
  | k + 1 => badR f push a k || !okR f push (a + 4 * k)
theorem badR_push (f : Nat → Int) (a : Int) (n : Nat) : badR f true a n = badUp a n := by
  induction n with
  | zero => rfl
  | succ n ih => show (badR f true a n || !okSW (a + 4 * n)) = _; rw [ih]; rfl
theorem badR_pop (f : Nat → Int) (a : Int) (l : List Int) (s : Sp) (n : Nat) : (popUp f a l s n).fault = (s.fault || badR f false a n) := by
  induction n with
  | zero => exact (Bool.or_false _).symm
  | succ n ih =>
    have e : (popUp f a l s (n + 1)).fault = ((popUp f a l s n).fault || !(wordS f (a + 4 * n)).2) := by
      show (popStep f (a + 4 * n) (l.getD n 0) (popUp f a l s n)).fault = _
      unfold popStep Sp.setR
      split <;> rfl
    rw [e, ih, Bool.or_assoc]; rfl
theorem badR_mono {f : Nat → Int} {p : Bool} {a : Int} {k n : Nat} (h : badR f p a k = true) (hk : k ≤ n) : badR f p a n = true := by
  induction n with
  | zero => have : k = 0 := by omega
            subst this; exact h
  | succ n ih =>
    by_cases c : k = n + 1
    · subst c; exact h
    · show (badR f p a n || _) = true
      rw [ih (by omega)]; rfl
theorem okR_lt {f : Nat → Int} {p : Bool} {a : Int} (h : okR f p a = true) : 0 ≤ a ∧ a % 4 = 0 ∧ a < 262144 := by
  unfold okR at h
  cases p
  · rw [if_neg (by simp)] at h
    unfold wordS at h
    split at h
    · assumption
    · cases h
  · rw [if_pos rfl, okSW_iff] at h; omega
theorem badR_at {f : Nat → Int} {p : Bool} {a : Int} {k : Nat} (h : badR f p a (k + 1) = false) : 0 ≤ a + 4 * k ∧ a + 4 * k < 262144 := by
  have h2 : okR f p (a + 4 * k) = true := by
    have : (badR f p a k || !okR f p (a + 4 * k)) = false := h
    simp at this; exact this.2
  have := okR_lt h2; omega
/-- no turn of the address -/
theorem badR_wrap {f : Nat → Int} {p : Bool} {a : Int} {k : Nat} (ha : U a) (h : badR f p a k = false) : 0 ≤ a + 4 * k ∧ a + 4 * k < 4294967296 := by
  unfold U at ha
  cases k with
  | zero => omega
  | succ k => have := badR_at h; omega
theorem badR_go {f : Nat → Int} {p : Bool} {a : Int} {k : Nat} (h : badR f p a k = false) : badR f p a (k + 1) = !okR f p (a + 4 * k) := by
  show (badR f p a k || _) = _; rw [h, Bool.false_or]
theorem badR_less {f : Nat → Int} {p : Bool} {a : Int} {n k : Nat} (h : badR f p a n = false) (hk : k ≤ n) : badR f p a k = false := by
  cases e : badR f p a k with
  | false => rfl
  | true => rw [badR_mono e hk] at h; exact h
/-- a pop's chip at a place of its list -/
theorem pop_next (f : Nat → Int) (a : Int) (l : List Int) (s : Sp) (k : Nat) (hr : l.getD k 0 = 15) (hl : (popUp f a l s k).c.R.length = 16) (pc : Int) :
    (popUp f a l s (k + 1)).c.R.set 15 pc = (popUp f a l s k).c.R.set 15 pc ∧ (popUp f a l s (k + 1)).c.R.getD 15 0 = bits .andNot .u32 (wordS f (a + 4 * k)).1 1 ∧ (popUp f a l s (k + 1)).cost = (popUp f a l s k).cost + 3 := by
  have e : popUp f a l s (k + 1) = popStep f (a + 4 * k) (l.getD k 0) (popUp f a l s k) := rfl
  rw [e]
  unfold popStep
  rw [if_pos hr]
  refine ⟨List.set_set .., ?_, rfl⟩
  show (List.set _ 15 _).getD 15 0 = _
  rw [List.getD_eq_getElem?_getD, List.getElem?_set_self (show 15 < (popUp f a l s k).c.R.length by omega)]; rfl
theorem pop_reg (f : Nat → Int) (a : Int) (l : List Int) (s : Sp) (k r : Nat) (hr : l.getD k 0 = r) (h15 : r ≠ 15) (pc : Int) :
    (popUp f a l s (k + 1)).c.R.set 15 pc = ((popUp f a l s k).c.R.set 15 pc).set r (wordS f (a + 4 * k)).1 ∧ (popUp f a l s (k + 1)).c.R.getD 15 0 = (popUp f a l s k).c.R.getD 15 0 ∧ (popUp f a l s (k + 1)).cost = (popUp f a l s k).cost := by
  have e : popUp f a l s (k + 1) = popStep f (a + 4 * k) (l.getD k 0) (popUp f a l s k) := rfl
  rw [e]
  unfold popStep
  rw [if_neg (by omega), hr]
  refine ⟨?_, ?_, rfl⟩
  · show (List.set _ _ _).set 15 pc = _
    rw [Int.toNat_natCast, List.set_comm _ _ h15]
  · show (List.set _ _ _).getD 15 0 = _
    rw [Int.toNat_natCast, List.getD_eq_getElem?_getD, List.getD_eq_getElem?_getD, List.getElem?_set_ne h15]
theorem pop_rest (f : Nat → Int) (a : Int) (l : List Int) (s : Sp) (k : Nat) : (popUp f a l s k).c.nf = s.c.nf ∧ (popUp f a l s k).c.zf = s.c.zf ∧ (popUp f a l s k).c.cf = s.c.cf ∧ (popUp f a l s k).c.vf = s.c.vf ∧ (popUp f a l s k).c.st = s.c.st ∧ (popUp f a l s k).c.num = s.c.num ∧ (popUp f a l s k).c.cyc = s.c.cyc := by
  induction k with
  | zero => exact ⟨rfl, rfl, rfl, rfl, rfl, rfl, rfl⟩
  | succ k ih =>
    have e : popUp f a l s (k + 1) = popStep f (a + 4 * k) (l.getD k 0) (popUp f a l s k) := rfl
    rw [e]
    unfold popStep Sp.setR
    split <;> exact ih
theorem okSW_word (f : Nat → Int) (a : Int) : okSW a = ((wordS f a).2 && !decide (a < 131072)) := by
  unfold okSW wordS
  rw [Bool.eq_iff_iff]
  split <;> simp <;> omega
theorem storeUp_congr {f : Nat → Int} {a : Int} {R R' l : List Int} {n : Nat} (h : ∀ k, k < n → R.getD (l.getD k 0).toNat 0 = R'.getD (l.getD k 0).toNat 0) : storeUp f a R l n = storeUp f a R' l n := by
  induction n with
  | zero => rfl
  | succ n ih =>
    show (setWordS (storeUp f a R l n) (a + 4 * n) (R.getD (l.getD n 0).toNat 0)).1 = (setWordS (storeUp f a R' l n) (a + 4 * n) (R'.getD (l.getD n 0).toNat 0)).1
    rw [ih (fun k hk => h k (by omega)), h n (by omega)]
theorem popUp_m (f : Nat → Int) (a : Int) (l : List Int) (s : Sp) (mp : Value) (k : Nat) : popUp f a l { s with m := mp } k = { popUp f a l s k with m := mp } := by
  induction k with
  | zero => rfl
  | succ k ih =>
    show popStep f (a + 4 * k) (l.getD k 0) (popUp f a l { s with m := mp } k) = { popStep f (a + 4 * k) (l.getD k 0) (popUp f a l s k) with m := mp }
    rw [ih]
    unfold popStep Sp.setR
    split <;> rfl
theorem getD_ne13 {l : List Int} {k : Nat} (x : Int) (h : k ≠ 13) : (l.set k x).getD 13 0 = l.getD 13 0 := by
  rw [List.getD_eq_getElem?_getD, List.getD_eq_getElem?_getD, List.getElem?_set_ne h]
theorem getD_neq {l : List Int} {k j : Nat} (x : Int) (h : k ≠ j) : (l.set k x).getD j 0 = l.getD j 0 := by
  rw [List.getD_eq_getElem?_getD, List.getD_eq_getElem?_getD, List.getElem?_set_ne h]
theorem pop_13 {f : Nat → Int} {a : Int} {l : List Int} {s : Sp} {k : Nat} (h : ∀ j, j < k → (l.getD j 0).toNat ≠ 13) : (popUp f a l s k).c.R.getD 13 0 = s.c.R.getD 13 0 := by
  induction k with
  | zero => rfl
  | succ k ih =>
    have e : popUp f a l s (k + 1) = popStep f (a + 4 * k) (l.getD k 0) (popUp f a l s k) := rfl
    rw [e, ← ih (fun j hj => h j (by omega))]
    have h1 := h k (by omega)
    unfold popStep Sp.setR
    split
    · exact getD_ne13 _ (by decide)
    · exact getD_ne13 _ h1
theorem pop_len (f : Nat → Int) (a : Int) (l : List Int) (s : Sp) (k : Nat) : (popUp f a l s k).c.R.length = s.c.R.length := by
  induction k with
  | zero => rfl
  | succ k ih =>
    have e : popUp f a l s (k + 1) = popStep f (a + 4 * k) (l.getD k 0) (popUp f a l s k) := rfl
    rw [e, ← ih]
    unfold popStep Sp.setR
    split <;> simp
theorem set_self15 {R : List Int} (h : R.length = 16) : R.set 15 (R.getD 15 0) = R := by
  rw [List.getD_eq_getElem?_getD, List.getElem?_eq_getElem (by omega)]
  exact List.set_getElem_self (by omega)
theorem bits_get {imm : Int} (h0 : 0 ≤ imm) (h1 : imm < 512) (last : Int) {k : Nat} (hk : k < (bitsTo imm 9).length) : (listS imm last).getD k 0 = if (bitsTo imm 9).getD k 0 = 8 then last else (bitsTo imm 9).getD k 0 := by
  rw [bits_list h0 h1, getD_map0 _ _ hk]
theorem bits_len {imm : Int} (h0 : 0 ≤ imm) (h1 : imm < 512) (last : Int) : (listS imm last).length = (bitsTo imm 9).length := by
  rw [bits_list h0 h1, List.length_map]
end Go.Proofs.Ytpihjhfaeloapaa
