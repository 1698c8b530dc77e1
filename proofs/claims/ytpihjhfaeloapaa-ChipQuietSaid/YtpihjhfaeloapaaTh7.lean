/- MERGED by mergech.py: XTh6 XTh7. -/
import Derived.Test.YtpihjhfaeloapaaTh5
namespace Go.Proofs.Th
open Go.RowKit Go.Proofs.On
structure Fm where
  d : Bool
  n : Bool
  m : Bool
  least : Int
  most : Int
  step : Int
def formOf (op : Int) : Option Fm :=
  if 12 ≤ op ∧ op ≤ 27 then some ⟨true, false, true, 0, 0, 1⟩
  else if 8 ≤ op ∧ op ≤ 11 then some ⟨true, false, false, 0, 255, 1⟩
  else if op = 1 then some ⟨true, false, true, 0, 31, 1⟩
  else if op = 2 then some ⟨true, false, true, 1, 32, 1⟩
  else if op = 3 then some ⟨true, false, true, 1, 32, 1⟩
  else if op = 4 then some ⟨true, true, true, 0, 0, 1⟩
  else if op = 5 then some ⟨true, true, true, 0, 0, 1⟩
  else if op = 29 then some ⟨true, true, true, 0, 0, 1⟩
  else if op = 30 then some ⟨true, true, true, 0, 0, 1⟩
  else if op = 6 then some ⟨true, true, false, 0, 7, 1⟩
  else if op = 7 then some ⟨true, true, false, 0, 7, 1⟩
  else if op = 31 then some ⟨true, true, false, 0, 124, 4⟩
  else if op = 32 then some ⟨true, true, false, 0, 124, 4⟩
  else if op = 33 then some ⟨true, true, false, 0, 31, 1⟩
  else if op = 34 then some ⟨true, true, false, 0, 31, 1⟩
  else if op = 35 then some ⟨true, false, false, 0, 1020, 4⟩
  else if op = 36 then some ⟨true, false, false, 0, 1020, 4⟩
  else if op = 37 then some ⟨false, false, false, 0, 508, 4⟩
  else if op = 38 then some ⟨false, false, false, 0, 508, 4⟩
  else if op = 39 then some ⟨false, false, false, 1, 511, 1⟩
  else if op = 40 then some ⟨false, false, false, 1, 511, 1⟩
  else if op = 41 then some ⟨false, false, false, (-256), 254, 2⟩
  else if op = 42 then some ⟨false, false, false, (-2048), 2046, 2⟩
  else if op = 43 then some ⟨false, false, false, (-16777216), 16777214, 2⟩
  else if op = 44 then some ⟨false, false, false, 0, 255, 1⟩
  else if op = 45 then some ⟨false, false, false, 0, 0, 0⟩
  else none
def inS (n a b s : Int) : Bool := decide (a ≤ n) && decide (n ≤ b) && (n.tmod s == 0)
def useS (u : Bool) (r : Int) : Bool := if u then decide (0 ≤ r) && decide (r ≤ 7) else r == 0
def rightF (f : Option Fm) (i : Ins) : Bool :=
  match f with
  | none => false
  | some f => useS f.d i.d && useS f.n i.n && useS f.m i.m && (if f.step = 0 then i.imm == 0 else inS i.imm f.least f.most f.step)
def rightR (i : Ins) : Bool :=
  if i.op = 41 then inS i.cond 0 13 1 && rightF (formOf 41) i
  else (i.cond == 0) && (if i.op = 28 then (i.n == 0) && (i.imm == 0) && inS i.d 0 14 1 && !(i.d == 13) && inS i.m 0 14 1 else rightF (formOf i.op) i)
theorem rr_none (op d n m imm cond : Int) (h41 : op ≠ 41) (h28 : op ≠ 28) (h43 : op ≠ 43) (h1 : formOf op = none) (h2 : rowOf op = none) : rightR ⟨op, d, n, m, imm, cond⟩ = rightS ⟨op, d, n, m, imm, cond⟩ := by
  simp [rightR, rightS, h41, h28, h43, h1, h2, rightF]
theorem rr_28 (d n m imm cond : Int) : rightR ⟨28, d, n, m, imm, cond⟩ = rightS ⟨28, d, n, m, imm, cond⟩ := by
  rw [Bool.eq_iff_iff]; simp [rightR, rightS, inS]; omega
theorem rr_43 (d n m imm cond : Int) : rightR ⟨43, d, n, m, imm, cond⟩ = rightS ⟨43, d, n, m, imm, cond⟩ := by
  rw [Bool.eq_iff_iff]; simp [rightR, rightS, rightF, formOf, useS, inS]; omega
theorem rr_1 (d n m imm cond : Int) : rightR ⟨1, d, n, m, imm, cond⟩ = rightS ⟨1, d, n, m, imm, cond⟩ := by
  rw [Bool.eq_iff_iff]; simp [rightR, rightS, rightF, formOf, rowOf, rowOk, rpS, reg, im, useS, inS]; try omega
theorem rr_2 (d n m imm cond : Int) : rightR ⟨2, d, n, m, imm, cond⟩ = rightS ⟨2, d, n, m, imm, cond⟩ := by
  rw [Bool.eq_iff_iff]; simp [rightR, rightS, rightF, formOf, rowOf, rowOk, rpS, reg, im, useS, inS]; try omega
theorem rr_3 (d n m imm cond : Int) : rightR ⟨3, d, n, m, imm, cond⟩ = rightS ⟨3, d, n, m, imm, cond⟩ := by
  rw [Bool.eq_iff_iff]; simp [rightR, rightS, rightF, formOf, rowOf, rowOk, rpS, reg, im, useS, inS]; try omega
theorem rr_4 (d n m imm cond : Int) : rightR ⟨4, d, n, m, imm, cond⟩ = rightS ⟨4, d, n, m, imm, cond⟩ := by
  rw [Bool.eq_iff_iff]; simp [rightR, rightS, rightF, formOf, rowOf, rowOk, rpS, reg, useS, inS]; try omega
theorem rr_5 (d n m imm cond : Int) : rightR ⟨5, d, n, m, imm, cond⟩ = rightS ⟨5, d, n, m, imm, cond⟩ := by
  rw [Bool.eq_iff_iff]; simp [rightR, rightS, rightF, formOf, rowOf, rowOk, rpS, reg, useS, inS]; try omega
theorem rr_29 (d n m imm cond : Int) : rightR ⟨29, d, n, m, imm, cond⟩ = rightS ⟨29, d, n, m, imm, cond⟩ := by
  rw [Bool.eq_iff_iff]; simp [rightR, rightS, rightF, formOf, rowOf, rowOk, rpS, reg, useS, inS]; try omega
theorem rr_30 (d n m imm cond : Int) : rightR ⟨30, d, n, m, imm, cond⟩ = rightS ⟨30, d, n, m, imm, cond⟩ := by
  rw [Bool.eq_iff_iff]; simp [rightR, rightS, rightF, formOf, rowOf, rowOk, rpS, reg, useS, inS]; try omega
theorem rr_6 (d n m imm cond : Int) : rightR ⟨6, d, n, m, imm, cond⟩ = rightS ⟨6, d, n, m, imm, cond⟩ := by
  rw [Bool.eq_iff_iff]; simp [rightR, rightS, rightF, formOf, rowOf, rowOk, rpS, reg, im, useS, inS]; try omega
theorem rr_7 (d n m imm cond : Int) : rightR ⟨7, d, n, m, imm, cond⟩ = rightS ⟨7, d, n, m, imm, cond⟩ := by
  rw [Bool.eq_iff_iff]; simp [rightR, rightS, rightF, formOf, rowOf, rowOk, rpS, reg, im, useS, inS]; try omega
theorem rr_31 (d n m imm cond : Int) : rightR ⟨31, d, n, m, imm, cond⟩ = rightS ⟨31, d, n, m, imm, cond⟩ := by
  rw [Bool.eq_iff_iff]; simp [rightR, rightS, rightF, formOf, rowOf, rowOk, rpS, reg, im, useS, inS]; try omega
theorem rr_32 (d n m imm cond : Int) : rightR ⟨32, d, n, m, imm, cond⟩ = rightS ⟨32, d, n, m, imm, cond⟩ := by
  rw [Bool.eq_iff_iff]; simp [rightR, rightS, rightF, formOf, rowOf, rowOk, rpS, reg, im, useS, inS]; try omega
theorem rr_33 (d n m imm cond : Int) : rightR ⟨33, d, n, m, imm, cond⟩ = rightS ⟨33, d, n, m, imm, cond⟩ := by
  rw [Bool.eq_iff_iff]; simp [rightR, rightS, rightF, formOf, rowOf, rowOk, rpS, reg, im, useS, inS]; try omega
theorem rr_34 (d n m imm cond : Int) : rightR ⟨34, d, n, m, imm, cond⟩ = rightS ⟨34, d, n, m, imm, cond⟩ := by
  rw [Bool.eq_iff_iff]; simp [rightR, rightS, rightF, formOf, rowOf, rowOk, rpS, reg, im, useS, inS]; try omega
theorem rr_35 (d n m imm cond : Int) : rightR ⟨35, d, n, m, imm, cond⟩ = rightS ⟨35, d, n, m, imm, cond⟩ := by
  rw [Bool.eq_iff_iff]; simp [rightR, rightS, rightF, formOf, rowOf, rowOk, rpS, reg, im, useS, inS]; try omega
theorem rr_36 (d n m imm cond : Int) : rightR ⟨36, d, n, m, imm, cond⟩ = rightS ⟨36, d, n, m, imm, cond⟩ := by
  rw [Bool.eq_iff_iff]; simp [rightR, rightS, rightF, formOf, rowOf, rowOk, rpS, reg, im, useS, inS]; try omega
theorem rr_37 (d n m imm cond : Int) : rightR ⟨37, d, n, m, imm, cond⟩ = rightS ⟨37, d, n, m, imm, cond⟩ := by
  rw [Bool.eq_iff_iff]; simp [rightR, rightS, rightF, formOf, rowOf, rowOk, rpS, im, useS, inS]; try omega
theorem rr_38 (d n m imm cond : Int) : rightR ⟨38, d, n, m, imm, cond⟩ = rightS ⟨38, d, n, m, imm, cond⟩ := by
  rw [Bool.eq_iff_iff]; simp [rightR, rightS, rightF, formOf, rowOf, rowOk, rpS, im, useS, inS]; try omega
theorem rr_39 (d n m imm cond : Int) : rightR ⟨39, d, n, m, imm, cond⟩ = rightS ⟨39, d, n, m, imm, cond⟩ := by
  rw [Bool.eq_iff_iff]; simp [rightR, rightS, rightF, formOf, rowOf, rowOk, rpS, im, useS, inS]; try omega
theorem rr_40 (d n m imm cond : Int) : rightR ⟨40, d, n, m, imm, cond⟩ = rightS ⟨40, d, n, m, imm, cond⟩ := by
  rw [Bool.eq_iff_iff]; simp [rightR, rightS, rightF, formOf, rowOf, rowOk, rpS, im, useS, inS]; try omega
theorem rr_41 (d n m imm cond : Int) : rightR ⟨41, d, n, m, imm, cond⟩ = rightS ⟨41, d, n, m, imm, cond⟩ := by
  rw [Bool.eq_iff_iff]; simp [rightR, rightS, rightF, formOf, rowOf, rowOk, rpS, im, useS, inS]; try omega
theorem rr_42 (d n m imm cond : Int) : rightR ⟨42, d, n, m, imm, cond⟩ = rightS ⟨42, d, n, m, imm, cond⟩ := by
  rw [Bool.eq_iff_iff]; simp [rightR, rightS, rightF, formOf, rowOf, rowOk, rpS, im, useS, inS]; try omega
theorem rr_44 (d n m imm cond : Int) : rightR ⟨44, d, n, m, imm, cond⟩ = rightS ⟨44, d, n, m, imm, cond⟩ := by
  rw [Bool.eq_iff_iff]; simp [rightR, rightS, rightF, formOf, rowOf, rowOk, rpS, im, useS, inS]; try omega
theorem rr_45 (d n m imm cond : Int) : rightR ⟨45, d, n, m, imm, cond⟩ = rightS ⟨45, d, n, m, imm, cond⟩ := by
  rw [Bool.eq_iff_iff]; simp [rightR, rightS, rightF, formOf, rowOf, rowOk, rpS, useS]; try omega
theorem rr_and (op d n m imm cond : Int) (h1 : 12 ≤ op) (h2 : op ≤ 27) : rightR ⟨op, d, n, m, imm, cond⟩ = rightS ⟨op, d, n, m, imm, cond⟩ := by
  have h41 : op ≠ 41 := by omega
  have h28 : op ≠ 28 := by omega
  have h43 : op ≠ 43 := by omega
  have hA : (12 ≤ op ∧ op ≤ 27) := by omega
  have hM : 8 ≤ op ∧ op ≤ 11 ∨ True := .inr trivial
  have hf : formOf op = some ⟨true, false, true, 0, 0, 1⟩ := by unfold formOf; rw [if_pos hA]
  have hr : ∃ b, rowOf op = some (b, [reg 0 0, reg 2 3]) := by unfold rowOf; rw [if_pos hA]; exact ⟨_, rfl⟩
  obtain ⟨b, hr⟩ := hr
  rw [Bool.eq_iff_iff]; simp [rightR, rightS, rightF, hf, hr, h41, h28, h43, rowOk, rpS, reg, useS, inS]; try omega
theorem rr_mov (op d n m imm cond : Int) (h1 : 8 ≤ op) (h2 : op ≤ 11) : rightR ⟨op, d, n, m, imm, cond⟩ = rightS ⟨op, d, n, m, imm, cond⟩ := by
  have h41 : op ≠ 41 := by omega
  have h28 : op ≠ 28 := by omega
  have h43 : op ≠ 43 := by omega
  have hA : ¬ (12 ≤ op ∧ op ≤ 27) := by omega
  have hM : 8 ≤ op ∧ op ≤ 11 ∨ True := .inr trivial
  have hf : formOf op = some ⟨true, false, false, 0, 255, 1⟩ := by unfold formOf; rw [if_neg hA, if_pos ⟨h1, h2⟩]
  have hr : ∃ b, rowOf op = some (b, [reg 0 8, im 0 8 0 255 1]) := by unfold rowOf; rw [if_neg hA, if_pos ⟨h1, h2⟩]; exact ⟨_, rfl⟩
  obtain ⟨b, hr⟩ := hr
  rw [Bool.eq_iff_iff]; simp [rightR, rightS, rightF, hf, hr, h41, h28, h43, rowOk, rpS, reg, im, useS, inS]; try omega
theorem rightR_eq (i : Ins) : rightR i = rightS i := by
  obtain ⟨op, d, n, m, imm, cond⟩ := i
  by_cases e28 : op = 28
  · subst e28; exact rr_28 d n m imm cond
  by_cases e1 : op = 1
  · subst e1; exact rr_1 d n m imm cond
  by_cases e2 : op = 2
  · subst e2; exact rr_2 d n m imm cond
  by_cases e3 : op = 3
  · subst e3; exact rr_3 d n m imm cond
  by_cases e4 : op = 4
  · subst e4; exact rr_4 d n m imm cond
  by_cases e5 : op = 5
  · subst e5; exact rr_5 d n m imm cond
  by_cases e29 : op = 29
  · subst e29; exact rr_29 d n m imm cond
  by_cases e30 : op = 30
  · subst e30; exact rr_30 d n m imm cond
  by_cases e6 : op = 6
  · subst e6; exact rr_6 d n m imm cond
  by_cases e7 : op = 7
  · subst e7; exact rr_7 d n m imm cond
  by_cases e31 : op = 31
  · subst e31; exact rr_31 d n m imm cond
  by_cases e32 : op = 32
  · subst e32; exact rr_32 d n m imm cond
  by_cases e33 : op = 33
  · subst e33; exact rr_33 d n m imm cond
  by_cases e34 : op = 34
  · subst e34; exact rr_34 d n m imm cond
  by_cases e35 : op = 35
  · subst e35; exact rr_35 d n m imm cond
  by_cases e36 : op = 36
  · subst e36; exact rr_36 d n m imm cond
  by_cases e37 : op = 37
  · subst e37; exact rr_37 d n m imm cond
  by_cases e38 : op = 38
  · subst e38; exact rr_38 d n m imm cond
  by_cases e39 : op = 39
  · subst e39; exact rr_39 d n m imm cond
  by_cases e40 : op = 40
  · subst e40; exact rr_40 d n m imm cond
  by_cases e41 : op = 41
  · subst e41; exact rr_41 d n m imm cond
  by_cases e42 : op = 42
  · subst e42; exact rr_42 d n m imm cond
  by_cases e43 : op = 43
  · subst e43; exact rr_43 d n m imm cond
  by_cases e44 : op = 44
  · subst e44; exact rr_44 d n m imm cond
  by_cases e45 : op = 45
  · subst e45; exact rr_45 d n m imm cond
  by_cases eA : 12 ≤ op ∧ op ≤ 27
  · exact rr_and op d n m imm cond eA.1 eA.2
  by_cases eM : 8 ≤ op ∧ op ≤ 11
  · exact rr_mov op d n m imm cond eM.1 eM.2
  exact rr_none op d n m imm cond e41 e28 e43 (by simp [formOf, eA, eM, e1, e2, e3, e4, e5, e29, e30, e6, e7, e31, e32, e33, e34, e35, e36, e37, e38, e39, e40, e41, e42, e43, e44, e45]) (by simp [rowOf, eA, eM, e1, e2, e3, e4, e5, e29, e30, e6, e7, e31, e32, e33, e34, e35, e36, e37, e38, e39, e40, e41, e42, e44, e45])
end Go.Proofs.Th
namespace Go.Proofs.Th
open Go.RowKit Go.Proofs.On
/-- the numbers that a part may be -/
def domS : List Sl → Int → List Int
  | [], _ => [0]
  | s :: l, k => if s.part = k then (List.range ((s.most - s.least) / s.step + 1).toNat).map (fun (j : Nat) => s.least + (j : Int) * s.step) else domS l k
theorem dom_mem {l : List Sl} (hst : ∀ s ∈ l, 0 < s.step ∧ s.least.tmod s.step = 0) {v k : Int} (h : rpS l v k = true) : v ∈ domS l k := by
  induction l with
  | nil => simp [rpS] at h; simp [domS, h]
  | cons s l ih =>
    obtain ⟨h1, h2⟩ := hst s (List.mem_cons_self ..)
    unfold rpS at h
    unfold domS
    by_cases hp : s.part = k
    · rw [if_pos hp] at h ⊢
      simp at h
      obtain ⟨⟨a, b⟩, c⟩ := h
      have hd1 : s.step ∣ v := Int.dvd_of_tmod_eq_zero c
      have hd2 : s.step ∣ s.least := Int.dvd_of_tmod_eq_zero h2
      obtain ⟨x, hx⟩ := hd1
      obtain ⟨y, hy⟩ := hd2
      have hxy : y ≤ x := by
        refine Int.not_lt.mp fun hlt => ?_
        have : s.step * x < s.step * y := Int.mul_lt_mul_of_pos_left hlt h1
        omega
      have hz : x - y ≤ (s.most - s.least) / s.step := by
        apply Int.le_ediv_of_mul_le h1
        rw [Int.sub_mul, Int.mul_comm x, Int.mul_comm y]
        omega
      refine List.mem_map.mpr ⟨(x - y).toNat, List.mem_range.mpr (by omega), ?_⟩
      rw [Int.toNat_of_nonneg (by omega), Int.sub_mul, Int.mul_comm x, Int.mul_comm y]
      omega
    · rw [if_neg hp] at h ⊢
      exact ih (fun s hs => hst s (List.mem_cons_of_mem _ hs)) h
def okS2 (s : Sl) : Bool := decide (0 < s.step) && (s.least.tmod s.step == 0)
def chkRow2 : Option (Int × List Sl) → Bool
  | none => true
  | some p => p.2.all okS2
theorem chk2_ite (c : Prop) [Decidable c] (a b : Option (Int × List Sl)) (ha : chkRow2 a = true) (hb : chkRow2 b = true) : chkRow2 (if c then a else b) = true := by
  by_cases h : c
  · rw [if_pos h]; exact ha
  · rw [if_neg h]; exact hb
theorem chkRow2_all (op : Int) : chkRow2 (rowOf op) = true := by
  unfold rowOf
  repeat' (first | (with_reducible refine chk2_ite _ _ _ ?_ ?_) | rfl)
theorem rowOf_ok2 {op b : Int} {l : List Sl} (h : rowOf op = some (b, l)) : ∀ s ∈ l, 0 < s.step ∧ s.least.tmod s.step = 0 := by
  have := chkRow2_all op
  rw [h] at this
  simp [chkRow2, okS2] at this
  exact this
/-- one halfword is decoded as the instruction -/
def back1 (i : Ins) : Bool :=
  match encL i with
  | [h] => decide (0 ≤ h) && decide (h < 65536) && !(h / 2048 == 30) && !(h / 256 == 70) && (opS h == i.op) && (match rowOf (opS h) with
    | none => false
    | some (b, l) => decide (readUp (opS h) h l l.length = (i, b)))
  | _ => false
def backAll (op : Int) : Bool :=
  match rowOf op with
  | none => true
  | some (_, l) => (domS l 0).all fun d => (domS l 1).all fun n => (domS l 2).all fun m => (domS l 3).all fun imm => (domS l 4).all fun c => back1 ⟨op, d, n, m, imm, c⟩
theorem back_of {i : Ins} (hA : backAll i.op = true) (h28 : i.op ≠ 28) (h43 : i.op ≠ 43) (hr : rightS i = true) : back1 i = true := by
  obtain ⟨op, d, n, m, imm, c⟩ := i
  unfold rightS at hr
  rw [if_neg h28, if_neg h43] at hr
  dsimp only at hA hr
  unfold backAll at hA
  cases hrow : rowOf op with
  | none => rw [hrow] at hr; cases hr
  | some p =>
    obtain ⟨b, l⟩ := p
    rw [hrow] at hA hr
    dsimp only at hA hr
    have hs := rowOf_ok2 hrow
    unfold rowOk at hr
    simp only [Bool.and_eq_true] at hr
    obtain ⟨⟨⟨⟨r1, r2⟩, r3⟩, r4⟩, r5⟩ := hr
    rw [List.all_eq_true] at hA
    have hA := hA d (dom_mem hs r1)
    rw [List.all_eq_true] at hA
    have hA := hA n (dom_mem hs r2)
    rw [List.all_eq_true] at hA
    have hA := hA m (dom_mem hs r3)
    rw [List.all_eq_true] at hA
    have hA := hA imm (dom_mem hs r4)
    rw [List.all_eq_true] at hA
    exact hA c (dom_mem hs r5)
end Go.Proofs.Th
