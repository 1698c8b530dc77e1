/- Thumb: there and back, one halfword: plain. No program in sight. -/
import Derived.Test.YtpcjkllhieiiiaaTh6
namespace Go.Proofs.Th
open Go.RowKit Go.Proofs.On
/-- the numbers that a part may be -/
def domS : List Sl → Int → List Int
  | [], _ => [0]
  | s :: l, k => if s.part = k then (List.range ((s.most - s.least) / s.step + 1).toNat).map (fun (j : Nat) => s.least + (j : Int) * s.step) else domS l k
theorem dom_mem {l : List Sl} (hst : ∀ s ∈ l, 0 < s.step ∧ s.least.tmod s.step = 0) {v k : Int} (h : rpS l v k = true) : v ∈ domS l k := by
  induction l with
  | nil => simp [rpS] at h; simp [domS, h]
  | cons s l ih =>
    obtain ⟨h1, h2⟩ := hst s (List.mem_cons_self ..)
    unfold rpS at h
    unfold domS
    by_cases hp : s.part = k
    · rw [if_pos hp] at h ⊢
      simp at h
      obtain ⟨⟨a, b⟩, c⟩ := h
      have hd1 : s.step ∣ v := Int.dvd_of_tmod_eq_zero c
      have hd2 : s.step ∣ s.least := Int.dvd_of_tmod_eq_zero h2
      obtain ⟨x, hx⟩ := hd1
      obtain ⟨y, hy⟩ := hd2
      have hxy : y ≤ x := by
        refine Int.not_lt.mp fun hlt => ?_
        have : s.step * x < s.step * y := Int.mul_lt_mul_of_pos_left hlt h1
        omega
      have hz : x - y ≤ (s.most - s.least) / s.step := by
        apply Int.le_ediv_of_mul_le h1
        rw [Int.sub_mul, Int.mul_comm x, Int.mul_comm y]
        omega
      refine List.mem_map.mpr ⟨(x - y).toNat, List.mem_range.mpr (by omega), ?_⟩
      rw [Int.toNat_of_nonneg (by omega), Int.sub_mul, Int.mul_comm x, Int.mul_comm y]
      omega
    · rw [if_neg hp] at h ⊢
      exact ih (fun s hs => hst s (List.mem_cons_of_mem _ hs)) h
def okS2 (s : Sl) : Bool := decide (0 < s.step) && (s.least.tmod s.step == 0)
def chkRow2 : Option (Int × List Sl) → Bool
  | none => true
  | some p => p.2.all okS2
theorem chk2_ite (c : Prop) [Decidable c] (a b : Option (Int × List Sl)) (ha : chkRow2 a = true) (hb : chkRow2 b = true) : chkRow2 (if c then a else b) = true := by
  by_cases h : c
  · rw [if_pos h]; exact ha
  · rw [if_neg h]; exact hb
theorem chkRow2_all (op : Int) : chkRow2 (rowOf op) = true := by
  unfold rowOf
  repeat' (first | (with_reducible refine chk2_ite _ _ _ ?_ ?_) | rfl)
theorem rowOf_ok2 {op b : Int} {l : List Sl} (h : rowOf op = some (b, l)) : ∀ s ∈ l, 0 < s.step ∧ s.least.tmod s.step = 0 := by
  have := chkRow2_all op
  rw [h] at this
  simp [chkRow2, okS2] at this
  exact this
/-- one halfword is decoded as the instruction -/
def back1 (i : Ins) : Bool :=
  match encL i with
  | [h] => decide (0 ≤ h) && decide (h < 65536) && !(h / 2048 == 30) && !(h / 256 == 70) && (opS h == i.op) && (match rowOf (opS h) with
    | none => false
    | some (b, l) => decide (readUp (opS h) h l l.length = (i, b)))
  | _ => false
def backAll (op : Int) : Bool :=
  match rowOf op with
  | none => true
  | some (_, l) => (domS l 0).all fun d => (domS l 1).all fun n => (domS l 2).all fun m => (domS l 3).all fun imm => (domS l 4).all fun c => back1 ⟨op, d, n, m, imm, c⟩
theorem back_of {i : Ins} (hA : backAll i.op = true) (h28 : i.op ≠ 28) (h43 : i.op ≠ 43) (hr : rightS i = true) : back1 i = true := by
  obtain ⟨op, d, n, m, imm, c⟩ := i
  unfold rightS at hr
  rw [if_neg h28, if_neg h43] at hr
  dsimp only at hA hr
  unfold backAll at hA
  cases hrow : rowOf op with
  | none => rw [hrow] at hr; cases hr
  | some p =>
    obtain ⟨b, l⟩ := p
    rw [hrow] at hA hr
    dsimp only at hA hr
    have hs := rowOf_ok2 hrow
    unfold rowOk at hr
    simp only [Bool.and_eq_true] at hr
    obtain ⟨⟨⟨⟨r1, r2⟩, r3⟩, r4⟩, r5⟩ := hr
    rw [List.all_eq_true] at hA
    have hA := hA d (dom_mem hs r1)
    rw [List.all_eq_true] at hA
    have hA := hA n (dom_mem hs r2)
    rw [List.all_eq_true] at hA
    have hA := hA m (dom_mem hs r3)
    rw [List.all_eq_true] at hA
    have hA := hA imm (dom_mem hs r4)
    rw [List.all_eq_true] at hA
    exact hA c (dom_mem hs r5)
end Go.Proofs.Th
