/- ref14.Encode of any instruction that may be. -/
import Derived.Test.YtpihjhfaeloapaaTe1
import Derived.Test.YtpihjhfaeloapaaTe2
import Derived.Test.YtpihjhfaeloapaaTe3
import Derived.Test.YtpihjhfaeloapaaTe4
import Derived.Test.YtpihjhfaeloapaaTe5
import Derived.Test.YtpihjhfaeloapaaTe6
import Derived.Test.YtpihjhfaeloapaaThS
namespace Go.Proofs.Ytpihjhfaeloapaa
open Go.RowKit On Th
theorem refEncode_c (i : Ins) (hr : rightS i = true) (w : World) : Calls Try.prog 16 #[.agg #[.int .i64 i.op, .int .i64 i.d, .int .i64 i.n, .int .i64 i.m, .int .i64 i.imm, .int .i64 i.cond]] w fun e w' => ∃ s, e = .returned s ∧ Hw w' s (encL i) ∧ Below w.heap.size w w' := by
  have er := (enc_range i hr).1
  obtain ⟨op, d, n, m, imm, cond⟩ := i
  have one : ∀ {e : Ending} {w' : World}, RefEnc ⟨op, d, n, m, imm, cond⟩ w e w' → ∃ s, e = .returned s ∧ Hw w' s (encL ⟨op, d, n, m, imm, cond⟩) ∧ Below w.heap.size w w' := by
    rintro e w' ⟨x, ⟨g, h1, h2, h3⟩, h4⟩
    have h4 := h4 hr
    rw [h4] at er ⊢
    obtain ⟨r1, r2⟩ := er x (List.mem_singleton.mpr rfl)
    refine ⟨_, h1, ⟨_, 1, rfl, fun k y hy => ?_⟩, h3⟩
    cases k with
    | zero => simp at hy; subst hy; exact ⟨r1, r2, g, 0, rfl, h2.cell 0⟩
    | succ k => simp at hy
  by_cases e43 : op = 43
  · subst e43
    refine (refEnc_43 d n m imm cond w hr).mono ?_
    rintro e w' ⟨g, h1, h2, h3⟩
    have e : encL ⟨43, d, n, m, imm, cond⟩ = [longA imm, longB imm] := by unfold encL; rw [if_neg (show ¬ (43 : Int) = 28 by decide), if_pos rfl]
    rw [e] at er ⊢
    obtain ⟨r1, r2⟩ := er (longA imm) (by simp)
    obtain ⟨r3, r4⟩ := er (longB imm) (by simp)
    refine ⟨_, h1, ⟨_, 2, rfl, fun k y hy => ?_⟩, h3⟩
    match k, hy with
    | 0, hy => simp at hy; subst hy; exact ⟨r1, r2, g, 0, rfl, h2.cell 0⟩
    | 1, hy => simp at hy; subst hy; exact ⟨r3, r4, g, 0, rfl, h2.cell 1⟩
    | k + 2, hy => simp at hy
  by_cases e28 : op = 28
  · subst e28; exact (refEnc_28 d n m imm cond w).mono fun e w' h => one h
  by_cases e1 : op = 1
  · subst e1; exact (refEnc_1 d n m imm cond w).mono fun e w' h => one h
  by_cases e2 : op = 2
  · subst e2; exact (refEnc_2 d n m imm cond w).mono fun e w' h => one h
  by_cases e3 : op = 3
  · subst e3; exact (refEnc_3 d n m imm cond w).mono fun e w' h => one h
  by_cases e4 : op = 4
  · subst e4; exact (refEnc_4 d n m imm cond w).mono fun e w' h => one h
  by_cases e5 : op = 5
  · subst e5; exact (refEnc_5 d n m imm cond w).mono fun e w' h => one h
  by_cases e6 : op = 6
  · subst e6; exact (refEnc_6 d n m imm cond w).mono fun e w' h => one h
  by_cases e7 : op = 7
  · subst e7; exact (refEnc_7 d n m imm cond w).mono fun e w' h => one h
  by_cases e8 : op = 8
  · subst e8; exact (refEnc_8 d n m imm cond w).mono fun e w' h => one h
  by_cases e9 : op = 9
  · subst e9; exact (refEnc_9 d n m imm cond w).mono fun e w' h => one h
  by_cases e10 : op = 10
  · subst e10; exact (refEnc_10 d n m imm cond w).mono fun e w' h => one h
  by_cases e11 : op = 11
  · subst e11; exact (refEnc_11 d n m imm cond w).mono fun e w' h => one h
  by_cases e12 : op = 12
  · subst e12; exact (refEnc_12 d n m imm cond w).mono fun e w' h => one h
  by_cases e13 : op = 13
  · subst e13; exact (refEnc_13 d n m imm cond w).mono fun e w' h => one h
  by_cases e14 : op = 14
  · subst e14; exact (refEnc_14 d n m imm cond w).mono fun e w' h => one h
  by_cases e15 : op = 15
  · subst e15; exact (refEnc_15 d n m imm cond w).mono fun e w' h => one h
  by_cases e16 : op = 16
  · subst e16; exact (refEnc_16 d n m imm cond w).mono fun e w' h => one h
  by_cases e17 : op = 17
  · subst e17; exact (refEnc_17 d n m imm cond w).mono fun e w' h => one h
  by_cases e18 : op = 18
  · subst e18; exact (refEnc_18 d n m imm cond w).mono fun e w' h => one h
  by_cases e19 : op = 19
  · subst e19; exact (refEnc_19 d n m imm cond w).mono fun e w' h => one h
  by_cases e20 : op = 20
  · subst e20; exact (refEnc_20 d n m imm cond w).mono fun e w' h => one h
  by_cases e21 : op = 21
  · subst e21; exact (refEnc_21 d n m imm cond w).mono fun e w' h => one h
  by_cases e22 : op = 22
  · subst e22; exact (refEnc_22 d n m imm cond w).mono fun e w' h => one h
  by_cases e23 : op = 23
  · subst e23; exact (refEnc_23 d n m imm cond w).mono fun e w' h => one h
  by_cases e24 : op = 24
  · subst e24; exact (refEnc_24 d n m imm cond w).mono fun e w' h => one h
  by_cases e25 : op = 25
  · subst e25; exact (refEnc_25 d n m imm cond w).mono fun e w' h => one h
  by_cases e26 : op = 26
  · subst e26; exact (refEnc_26 d n m imm cond w).mono fun e w' h => one h
  by_cases e27 : op = 27
  · subst e27; exact (refEnc_27 d n m imm cond w).mono fun e w' h => one h
  by_cases e29 : op = 29
  · subst e29; exact (refEnc_29 d n m imm cond w).mono fun e w' h => one h
  by_cases e30 : op = 30
  · subst e30; exact (refEnc_30 d n m imm cond w).mono fun e w' h => one h
  by_cases e31 : op = 31
  · subst e31; exact (refEnc_31 d n m imm cond w).mono fun e w' h => one h
  by_cases e32 : op = 32
  · subst e32; exact (refEnc_32 d n m imm cond w).mono fun e w' h => one h
  by_cases e33 : op = 33
  · subst e33; exact (refEnc_33 d n m imm cond w).mono fun e w' h => one h
  by_cases e34 : op = 34
  · subst e34; exact (refEnc_34 d n m imm cond w).mono fun e w' h => one h
  by_cases e35 : op = 35
  · subst e35; exact (refEnc_35 d n m imm cond w).mono fun e w' h => one h
  by_cases e36 : op = 36
  · subst e36; exact (refEnc_36 d n m imm cond w).mono fun e w' h => one h
  by_cases e37 : op = 37
  · subst e37; exact (refEnc_37 d n m imm cond w).mono fun e w' h => one h
  by_cases e38 : op = 38
  · subst e38; exact (refEnc_38 d n m imm cond w).mono fun e w' h => one h
  by_cases e39 : op = 39
  · subst e39; exact (refEnc_39 d n m imm cond w).mono fun e w' h => one h
  by_cases e40 : op = 40
  · subst e40; exact (refEnc_40 d n m imm cond w).mono fun e w' h => one h
  by_cases e41 : op = 41
  · subst e41; exact (refEnc_41 d n m imm cond w).mono fun e w' h => one h
  by_cases e42 : op = 42
  · subst e42; exact (refEnc_42 d n m imm cond w).mono fun e w' h => one h
  by_cases e44 : op = 44
  · subst e44; exact (refEnc_44 d n m imm cond w).mono fun e w' h => one h
  by_cases e45 : op = 45
  · subst e45; exact (refEnc_45 d n m imm cond w).mono fun e w' h => one h
  have hA : ¬ (12 ≤ op ∧ op ≤ 27) := by omega
  have hM : ¬ (8 ≤ op ∧ op ≤ 11) := by omega
  have hn : rowOf op = none := by simp [rowOf, hA, hM, e1, e2, e3, e4, e5, e6, e7, e29, e30, e31, e32, e33, e34, e35, e36, e37, e38, e39, e40, e41, e42, e44, e45]
  unfold rightS at hr
  rw [if_neg e28, if_neg e43] at hr
  dsimp only at hr
  rw [hn] at hr
  cases hr
end Go.Proofs.Ytpihjhfaeloapaa
