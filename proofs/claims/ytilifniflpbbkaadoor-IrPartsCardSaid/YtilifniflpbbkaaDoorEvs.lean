/- Rounds, in two parts (for IrParts, IrEvals). -/
import Derived.Test.YtilifniflpbbkaaDoorEval
namespace Go.Proofs.YtilifniflpbbkaaDoor
open Go.RowKit On
theorem evalS_stop {l : List Nd} {s : List Int × Int × Int} (h : (l.getD s.2.1.toNat .none).pure = false) (k : Nat) : evalS l k s = s := by
  cases k with
  | zero => rfl
  | succ k => unfold evalS; rw [h]; rfl
theorem evalS_add (l : List Nd) (a b : Nat) : ∀ s, evalS l (a + b) s = evalS l b (evalS l a s) := by
  induction a with
  | zero => intro s; rw [Nat.zero_add]; rfl
  | succ a ih =>
    intro s
    rw [show a + 1 + b = (a + b) + 1 by omega]
    cases h : (l.getD s.2.1.toNat .none).pure with
    | true =>
      conv => lhs; unfold evalS
      conv => rhs; rhs; unfold evalS
      rw [h, if_pos rfl, if_pos rfl]
      exact ih _
    | false => rw [evalS_stop h, evalS_stop h, evalS_stop h]
/-- the ticks are counted from any number on -/
theorem evalS_ticks (l : List Nd) (k : Nat) : ∀ (xs : List Int) (a t : Int), evalS l k (xs, a, t) = ((evalS l k (xs, a, 0)).1, (evalS l k (xs, a, 0)).2.1, t + (evalS l k (xs, a, 0)).2.2) := by
  induction k with
  | zero => intro xs a t; simp [evalS]
  | succ k ih =>
    intro xs a t
    cases h : (l.getD a.toNat .none).pure with
    | true =>
      have e : ∀ t, evalS l (k + 1) (xs, a, t) = evalS l k (rnd l (xs, a, t)) := fun t => by
        conv => lhs; unfold evalS
        rw [if_pos h]
      rw [e t, e 0]
      unfold rnd
      dsimp only
      rw [ih _ _ (if (l.getD a.toNat .none).isTick then t + 1 else t), ih _ _ (if (l.getD a.toNat .none).isTick then (0 : Int) + 1 else 0)]
      dsimp only
      split
      · simp only [Prod.mk.injEq, true_and]; omega
      · simp only [Prod.mk.injEq, true_and]; omega
    | false =>
      rw [evalS_stop (s := (xs, a, t)) h, evalS_stop (s := (xs, a, 0)) h]
      simp
/-- what holds of registers and place is kept -/
theorem evalS_keeps {w : World} {params : Int} {l : List Nd} {nx : Nat} (hc : CheckP params nx l) (hok : ∀ n ∈ l, n.ok w) (k : Nat) : ∀ s : List Int × Int × Int, s.1.length = nx → inS s.2.1 l.length = true → (∀ x ∈ s.1, Wd.R x) →
    (evalS l k s).1.length = nx ∧ inS (evalS l k s).2.1 l.length = true ∧ ∀ x ∈ (evalS l k s).1, Wd.R x := by
  induction k with
  | zero => intro s h1 h2 h3; exact ⟨h1, h2, h3⟩
  | succ k ih =>
    intro s h1 h2 h3
    cases h : (l.getD s.2.1.toNat .none).pure with
    | false => rw [evalS_stop h]; exact ⟨h1, h2, h3⟩
    | true =>
      unfold evalS
      rw [if_pos h]
      obtain ⟨a, ha, hal⟩ := inS_nat h2
      have hg : l.getD s.2.1.toNat .none = l[a]'hal := by
        rw [ha, Int.toNat_natCast, List.getD_eq_getElem?_getD, List.getElem?_eq_getElem hal]; rfl
      have hr := hc.2.2.2.2.2 a _ (List.getElem?_eq_getElem hal)
      have hm : l[a]'hal ∈ l := List.getElem_mem hal
      rw [hg] at h
      unfold Nd.rightS at hr
      simp only [Bool.and_eq_true] at hr
      refine ih _ ?_ ?_ ?_
      · unfold rnd; rw [hg]; dsimp only; rw [Nd.step_len]; exact h1
      · unfold rnd; rw [hg]; dsimp only; rw [ha]; exact Nd.go_in h hr.1.2 s.1
      · unfold rnd; rw [hg]; dsimp only; exact Nd.step_R (hok _ hm) hr.1.1.1 h3
end Go.Proofs.YtilifniflpbbkaaDoor
