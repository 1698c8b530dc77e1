/- thumb.Encode. -/
import Derived.Test.YtpcjkllhieiiiaaThE
import Derived.Test.YtpcjkllhieiiiaaTh3
namespace Go.Proofs.Ytpcjkllhieiiiaa
open Go.RowKit On Th
/-- what Right answers -/
def RightIs (i : Ins) (r : Bool) : Prop := ∀ w, Calls Try.prog 13 #[.agg #[.int .i64 i.op, .int .i64 i.d, .int .i64 i.n, .int .i64 i.m, .int .i64 i.imm, .int .i64 i.cond]] w fun e w' => e = .returned (.bool r) ∧ Below w.heap.size w w'
/-- halfwords in memory of their own -/
def HalfAt (hs : List Int) (w : World) (e : Ending) (w' : World) : Prop :=
  ∃ g, e = .returned (.tuple #[.slice (some ⟨g, 0, none⟩) hs.length hs.length, .int .i64 0]) ∧ Blk w' g 37 (hs.map (Value.int .u16)).toArray ∧ Below w.heap.size w w'
theorem flag_c (b : Bool) (w : World) : Calls Try.prog 34 #[.bool b] w fun e w' => e = .returned (.int .i64 (if b then 1 else 0)) ∧ w = w' := by
  go_enter Try.func34, Try.ntmps34
  cases b <;> (go_wp2_with fail; go_ret; exact ⟨rfl, rfl⟩)
set_option maxHeartbeats 2000000 in
theorem long_c (imm : Int) (w : World) : Calls Try.prog 22 #[.int .i64 imm] w fun e w' => e = .returned (.slice (some ⟨w.heap.size, 0, none⟩) 2 2) ∧ w' = w.alloc (.cells #[.int .u16 (longA imm), .int .u16 (longB imm)] 37) := by
  go_enter Try.func22, Try.ntmps22
  have hs : Hid ((imm < 0 ∧ longS imm = 1) ∨ (0 ≤ imm ∧ longS imm = 0)) := by
    show (imm < 0 ∧ longS imm = 1) ∨ (0 ≤ imm ∧ longS imm = 0)
    unfold longS
    by_cases h : imm < 0
    · exact .inl ⟨h, if_pos h⟩
    · exact .inr ⟨by omega, if_neg h⟩
  rcases hs.out with ⟨h, h'⟩ | ⟨h, h'⟩
  all_goals
    have HS := Lib.hid h'
    clear hs h'
    go_wp2_with fail
    refine (flag_c _ _).mono ?_
    rintro e w' ⟨rfl, rfl⟩
    go_wp2_with fail
    go_ret
    refine ⟨rfl, ?_⟩
    unfold longA longB longJ
    rw [HS.out]
    have e0 : wrap64 (0 * 1024) = 0 := by unfold wrap64; omega
    have e1 : wrap64 (1 * 1024) = 1024 := by unfold wrap64; omega
    simp only [e0, e1]
set_option maxHeartbeats 2000000 in
theorem encode_bad (i : Ins) (w : World) (hr : RightIs i false) : Calls Try.prog 10 #[.agg #[.int .i64 i.op, .int .i64 i.d, .int .i64 i.n, .int .i64 i.m, .int .i64 i.imm, .int .i64 i.cond]] w fun e w' => e = .returned (.tuple #[.slice none 0 0, .int .i64 1]) ∧ Below w.heap.size w w' := by
  have HB0 : Hid (Below w.heap.size w (w.alloc (.cells #[.int .i64 i.op, .int .i64 i.d, .int .i64 i.n, .int .i64 i.m, .int .i64 i.imm, .int .i64 i.cond] 24))) := (Below.refl _ _).alloc (Nat.le_refl _) _
  go_enter Try.func10, Try.ntmps10
  go_wp2_with fail
  refine (hr _).mono ?_
  rintro e w2 ⟨rfl, hb⟩
  have HB2 := Lib.hid (HB0.out.trans (hb.mono HB0.out.size))
  clear hb
  go_wp2_with fail
  go_ret2
  exact ⟨rfl, HB2.out⟩
set_option maxHeartbeats 2000000 in
theorem encode28 (d n m imm cond : Int) (w : World) (hr : RightIs ⟨28, d, n, m, imm, cond⟩ true) : Calls Try.prog 10 #[.agg #[.int .i64 28, .int .i64 d, .int .i64 n, .int .i64 m, .int .i64 imm, .int .i64 cond]] w (HalfAt [enc28 d m] w) := by
  have KI : Blk (w.alloc (.cells #[.int .i64 28, .int .i64 d, .int .i64 n, .int .i64 m, .int .i64 imm, .int .i64 cond] 24)) w.heap.size 24 #[.int .i64 28, .int .i64 d, .int .i64 n, .int .i64 m, .int .i64 imm, .int .i64 cond] := Blk.new _ _ _
  have HB0 : Hid (Below w.heap.size w (w.alloc (.cells #[.int .i64 28, .int .i64 d, .int .i64 n, .int .i64 m, .int .i64 imm, .int .i64 cond] 24))) := (Below.refl _ _).alloc (Nat.le_refl _) _
  go_enter Try.func10, Try.ntmps10
  go_wp2_with fail
  refine (hr _).mono ?_
  rintro e w2 ⟨rfl, hb⟩
  have ki := KI.only (S := fun _ => False) (Only.of_below hb) id
  have c0 := ki.cell 0
  have c1 := ki.cell 1
  have c3 := ki.cell 3
  simp at c0 c1 c3
  have HB2 := Lib.hid (HB0.out.trans (hb.mono HB0.out.size))
  clear hb KI ki
  go_wp2_with fail
  go_ret2
  exact ⟨_, rfl, Blk.new _ _ _, HB2.out.alloc HB2.out.size _⟩
set_option maxHeartbeats 2000000 in
theorem encode43 (d n m imm cond : Int) (w : World) (hr : RightIs ⟨43, d, n, m, imm, cond⟩ true) : Calls Try.prog 10 #[.agg #[.int .i64 43, .int .i64 d, .int .i64 n, .int .i64 m, .int .i64 imm, .int .i64 cond]] w (HalfAt [longA imm, longB imm] w) := by
  have KI : Blk (w.alloc (.cells #[.int .i64 43, .int .i64 d, .int .i64 n, .int .i64 m, .int .i64 imm, .int .i64 cond] 24)) w.heap.size 24 #[.int .i64 43, .int .i64 d, .int .i64 n, .int .i64 m, .int .i64 imm, .int .i64 cond] := Blk.new _ _ _
  have HB0 : Hid (Below w.heap.size w (w.alloc (.cells #[.int .i64 43, .int .i64 d, .int .i64 n, .int .i64 m, .int .i64 imm, .int .i64 cond] 24))) := (Below.refl _ _).alloc (Nat.le_refl _) _
  go_enter Try.func10, Try.ntmps10
  go_wp2_with fail
  refine (hr _).mono ?_
  rintro e w2 ⟨rfl, hb⟩
  have ki := KI.only (S := fun _ => False) (Only.of_below hb) id
  have c0 := ki.cell 0
  have c4 := ki.cell 4
  simp at c0 c4
  have HB2 := Lib.hid (HB0.out.trans (hb.mono HB0.out.size))
  clear hb KI ki
  go_wp2_with fail
  refine (long_c _ _).mono ?_
  rintro e w3 ⟨rfl, rfl⟩
  go_wp2_with fail
  go_ret2
  exact ⟨_, rfl, Blk.new _ _ _, HB2.out.alloc HB2.out.size _⟩
end Go.Proofs.Ytpcjkllhieiiiaa
