/- thumb.Right, over what find answers. -/
import Derived.Test.YtpihjhfaeloapaaTh2
import Derived.Test.YtpihjhfaeloapaaThC
namespace Go.Proofs.Ytpihjhfaeloapaa
open Go.RowKit On Th
set_option maxHeartbeats 2000000 in
theorem right28 (d n m imm cond : Int) (w : World) : Calls Try.prog 71 #[.agg #[.int .i64 28, .int .i64 d, .int .i64 n, .int .i64 m, .int .i64 imm, .int .i64 cond]] w fun e w' => e = .returned (.bool (rightS ⟨28, d, n, m, imm, cond⟩)) ∧ Below w.heap.size w w' := by
  go_enter Try.func71, Try.ntmps71
  go_wp2_with fail
  all_goals
    go_ret
    refine ⟨retB ?_, (Below.refl _ _).alloc (Nat.le_refl _) _⟩
    rw [Bool.eq_iff_iff]
    unfold rightS
    first | (simp; done) | (simp; omega)
set_option maxHeartbeats 2000000 in
theorem right43 (d n m imm cond : Int) (w : World) : Calls Try.prog 71 #[.agg #[.int .i64 43, .int .i64 d, .int .i64 n, .int .i64 m, .int .i64 imm, .int .i64 cond]] w fun e w' => e = .returned (.bool (rightS ⟨43, d, n, m, imm, cond⟩)) ∧ Below w.heap.size w w' := by
  go_enter Try.func71, Try.ntmps71
  go_wp2_with fail
  all_goals
    go_ret
    refine ⟨retB ?_, (Below.refl _ _).alloc (Nat.le_refl _) _⟩
    rw [Bool.eq_iff_iff]
    unfold rightS
    first | (simp; done) | (simp; omega)
/-- a row, its slots in memory; whether there is one -/
def RowAt (l : List Sl) (op b : Int) (ok : Bool) (w : World) (e : Ending) (w' : World) : Prop :=
  ∃ A, e = .returned (.tuple #[.agg #[.int .i64 op, .int .u16 b, .slice A l.length l.length], .bool ok]) ∧ SlA 140 w' A l ∧ Below w.heap.size w w'
def upTo (l : List Sl) (i : Ins) (q : Nat) : Bool := (List.range q).all fun k => rpS l (i.part k) k
theorem upTo_succ (l : List Sl) (i : Ins) (q : Nat) : upTo l i (q + 1) = (upTo l i q && rpS l (i.part q) q) := by
  unfold upTo; rw [List.range_succ, List.all_append]; simp
theorem upTo_five (l : List Sl) (i : Ins) : upTo l i 5 = rowOk l i := by
  simp only [upTo_succ]; simp [upTo, rowOk, Ins.part]
set_option maxHeartbeats 2000000 in
theorem rightRow (op d n m imm cond o b : Int) (l : List Sl) (ok : Bool) (w : World) (hf : ∀ w, Calls Try.prog 72 #[.int .i64 op] w (RowAt l o b ok w)) (hst : ∀ s ∈ l, s.step ≠ 0) (hlen : l.length ≤ 5) (h28 : op ≠ 28) (h43 : op ≠ 43) :
    Calls Try.prog 71 #[.agg #[.int .i64 op, .int .i64 d, .int .i64 n, .int .i64 m, .int .i64 imm, .int .i64 cond]] w fun e w' => e = .returned (.bool (ok && rowOk l ⟨op, d, n, m, imm, cond⟩)) ∧ Below w.heap.size w w' := by
  have HF := Lib.hid hf
  have HST := Lib.hid hst
  clear hf hst
  rw [← upTo_five]
  have KI : Blk (w.alloc (.cells #[.int .i64 op, .int .i64 d, .int .i64 n, .int .i64 m, .int .i64 imm, .int .i64 cond] 36)) w.heap.size 36 #[.int .i64 op, .int .i64 d, .int .i64 n, .int .i64 m, .int .i64 imm, .int .i64 cond] := Blk.new _ _ _
  have HB0 : Hid (Below w.heap.size w (w.alloc (.cells #[.int .i64 op, .int .i64 d, .int .i64 n, .int .i64 m, .int .i64 imm, .int .i64 cond] 36))) := (Below.refl _ _).alloc (Nat.le_refl _) _
  go_enter Try.func71, Try.ntmps71
  go_wp2_with fail
  refine (HF.out _).mono ?_
  rintro e w2 ⟨A, rfl, hs, hb⟩
  have KI2 : Hid (Blk (w2.alloc (.cells #[.int .i64 o, .int .u16 b, .slice A l.length l.length] 123)) w.heap.size 36 #[.int .i64 op, .int .i64 d, .int .i64 n, .int .i64 m, .int .i64 imm, .int .i64 cond]) := (KI.only (S := fun _ => False) (Only.of_below hb) id).alloc _
  have KR2 : Hid (Blk (w2.alloc (.cells #[.int .i64 o, .int .u16 b, .slice A l.length l.length] 123)) w2.heap.size 123 #[.int .i64 o, .int .u16 b, .slice A l.length l.length]) := Blk.new _ _ _
  have hb2 : Below w2.heap.size w2 (w2.alloc (.cells #[.int .i64 o, .int .u16 b, .slice A l.length l.length] 123)) := (Below.refl _ _).alloc (Nat.le_refl _) _
  have HS2 : Hid (SlA 140 (w2.alloc (.cells #[.int .i64 o, .int .u16 b, .slice A l.length l.length] 123)) A l) := hs.below hb2
  have HB2 := Lib.hid ((HB0.out.trans (hb.mono HB0.out.size)).trans (hb2.mono (by have := HB0.out.size; have := hb.size; omega)))
  clear KI hb hs hb2
  go_wp2_with fail
  go_loopw [4, 71] (fun s j wr => ∃ q : Nat, q ≤ 5 ∧ j = .int .i64 q ∧ s = .bool (ok && upTo l ⟨op, d, n, m, imm, cond⟩ q) ∧ Below (w2.alloc (.cells #[.int .i64 o, .int .u16 b, .slice A l.length l.length] 123)).heap.size (w2.alloc (.cells #[.int .i64 o, .int .u16 b, .slice A l.length l.length] 123)) wr) (fun _ j _ => 5 - (intOf j).toNat)
  case atStart => exact ⟨0, by omega, by rfl, by simp [upTo], Below.refl _ _⟩
  case round =>
    obtain ⟨q, hq, rfl, rfl, hb⟩ := hrel
    have HB := Lib.hid (HB2.out.trans (hb.mono HB2.out.size))
    have HS := Lib.hid (HS2.out.below hb)
    have kr := KR2.out.only (S := fun _ => False) (Only.of_below hb) id
    have ki := KI2.out.only (S := fun _ => False) (Only.of_below hb) id
    have HBL := Lib.hid hb
    clear hb
    by_cases hlt : q < 5
    · have hsu := upTo_succ l ⟨op, d, n, m, imm, cond⟩ q
      generalize hu : (ok && upTo l ⟨op, d, n, m, imm, cond⟩ q) = u
      have hsu' : (ok && upTo l ⟨op, d, n, m, imm, cond⟩ (q + 1)) = (u && rpS l ((⟨op, d, n, m, imm, cond⟩ : Ins).part q) q) := by rw [hsu, ← Bool.and_assoc, hu]
      have HSU := Lib.hid hsu'
      clear hsu hsu' hu
      have r0 := kr.cell 0
      have r1 := kr.cell 1
      have r2 := kr.cell 2
      have i0 := ki.cell 0
      have i1 := ki.cell 1
      have i2 := ki.cell 2
      have i3 := ki.cell 3
      have i4 := ki.cell 4
      have i5 := ki.cell 5
      simp at r0 r1 r2 i0 i1 i2 i3 i4 i5
      clear kr ki
      cases u
      · go_wp2_with fail
        go_roundw
        case rel => exact ⟨q + 1, by omega, by go_num, by rw [HSU.out]; rfl, HBL.out⟩
        case measure => simp [intOf]; omega
      · go_wp2_with fail
        refine (rightPart_c o b q A l ⟨op, d, n, m, imm, cond⟩ _ HS.out HST.out hlen).mono ?_
        rintro e w3 ⟨rfl, hb3⟩
        have HB3 := Lib.hid (HBL.out.trans (hb3.mono HBL.out.size))
        clear hb3
        go_wp2_with fail
        go_roundw
        case rel => exact ⟨q + 1, by omega, by go_num, by rw [HSU.out]; rfl, HB3.out⟩
        case measure => simp [intOf]; omega
    · have hq5 : q = 5 := by omega
      subst hq5
      clear kr ki
      go_wp2_with fail
      go_ret
      exact ⟨rfl, HB.out⟩
end Go.Proofs.Ytpihjhfaeloapaa
