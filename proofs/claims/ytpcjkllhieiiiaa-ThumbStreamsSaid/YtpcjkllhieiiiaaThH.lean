/- thumb.Encode over a row. -/
import Derived.Test.YtpcjkllhieiiiaaThG
import Derived.Deep.RegionHeld3
namespace Go.Proofs.Ytpcjkllhieiiiaa
open Go.RowKit On Th
theorem halfAt_one {h : Int} {w w2 : World} (hb : Below w.heap.size w w2) : HalfAt [h] w (.returned (.tuple #[.slice (some ⟨w2.heap.size, 0, none⟩) 1 1, .int .i64 0])) (w2.alloc (.cells #[.int .u16 h] 37)) :=
  ⟨_, rfl, Blk.new _ _ _, hb.alloc hb.size _⟩
set_option maxHeartbeats 4000000 in
theorem encodeRow (op d n m imm cond b : Int) (l : List Sl) (w : World) (hr : RightIs ⟨op, d, n, m, imm, cond⟩ true) (h28 : op ≠ 28) (h43 : op ≠ 43) (hf : ∀ w, Calls Try.prog 23 #[.int .i64 op] w (RowAt l op b true w)) (hst : ∀ s ∈ l, s.step ≠ 0 ∧ 0 ≤ s.bits ∧ s.bits < 16 ∧ 0 ≤ s.shift ∧ s.shift < 16) (hlen : l.length ≤ 5) :
    Calls Try.prog 10 #[.agg #[.int .i64 op, .int .i64 d, .int .i64 n, .int .i64 m, .int .i64 imm, .int .i64 cond]] w (HalfAt [encUp b l ⟨op, d, n, m, imm, cond⟩ l.length] w) := by
  have HF := Lib.hid hf
  have HST := Lib.hid hst
  clear hf hst
  have KI : Blk (w.alloc (.cells #[.int .i64 op, .int .i64 d, .int .i64 n, .int .i64 m, .int .i64 imm, .int .i64 cond] 24)) w.heap.size 24 #[.int .i64 op, .int .i64 d, .int .i64 n, .int .i64 m, .int .i64 imm, .int .i64 cond] := Blk.new _ _ _
  have HB0 : Hid (Below w.heap.size w (w.alloc (.cells #[.int .i64 op, .int .i64 d, .int .i64 n, .int .i64 m, .int .i64 imm, .int .i64 cond] 24))) := (Below.refl _ _).alloc (Nat.le_refl _) _
  go_enter Try.func10, Try.ntmps10
  go_wp2_with fail
  refine (hr _).mono ?_
  rintro e w2 ⟨rfl, hb⟩
  have ki := KI.only (S := fun _ => False) (Only.of_below hb) id
  have c0 := ki.cell 0
  simp at c0
  have HB2 := Lib.hid (HB0.out.trans (hb.mono HB0.out.size))
  clear hb KI
  have KI := Lib.hid ki
  clear ki
  go_wp2_with fail
  refine (HF.out _).mono ?_
  rintro e w3 ⟨A, rfl, hs, hb⟩
  have HB3 := Lib.hid ((HB2.out.trans (hb.mono HB2.out.size)).alloc (by have := HB2.out.size; have := hb.size; omega) (.cells #[.int .i64 op, .int .u16 b, .slice A l.length l.length] 53))
  have KI3 := Lib.hid ((KI.out.only (S := fun _ => False) (Only.of_below hb) id).alloc (.cells #[.int .i64 op, .int .u16 b, .slice A l.length l.length] 53))
  have HS3 := Lib.hid (hs.below ((Below.refl _ _).alloc (Nat.le_refl _) (.cells #[.int .i64 op, .int .u16 b, .slice A l.length l.length] 53)))
  clear hs hb c0 KI
  go_wp2_with fail
  go_loopw [6, 48] (fun h j wr => ∃ q : Nat, q ≤ l.length ∧ j = .int .i64 q ∧ h = .int .u16 (encUp b l ⟨op, d, n, m, imm, cond⟩ q) ∧ Below (w3.alloc (.cells #[.int .i64 op, .int .u16 b, .slice A l.length l.length] 53)).heap.size (w3.alloc (.cells #[.int .i64 op, .int .u16 b, .slice A l.length l.length] 53)) wr) (fun _ j _ => l.length - (intOf j).toNat)
  case atStart => exact ⟨0, Nat.zero_le _, rfl, rfl, Below.refl _ _⟩
  case round =>
    obtain ⟨q, hq, rfl, rfl, hb⟩ := hrel
    have HBR := Lib.hid (HB3.out.trans (hb.mono HB3.out.size))
    have HBL := Lib.hid hb
    have HLR := Lib.hid (HS3.out.below hb)
    have KIR := Lib.hid (KI3.out.only (S := fun _ => False) (Only.of_below hb) id)
    clear hb
    by_cases hlt : q < l.length
    · obtain ⟨s, hs⟩ : ∃ s, l[q]? = some s := ⟨l[q], by simp [hlt]⟩
      obtain ⟨hstep, hb0, hb1, hs0, hs1⟩ := HST.out s (List.mem_of_getElem? hs)
      have HU := Lib.hid (encUp_succ b l ⟨op, d, n, m, imm, cond⟩ hs)
      obtain ⟨g, hA, hg, c0, c1, c2, c3, c4, c5⟩ := HLR.out.cell hs
      subst hA
      have KS : Blk (wr.alloc (.cells #[.int .i64 s.part, .int .i64 s.shift, .int .i64 s.bits, .int .i64 s.least, .int .i64 s.most, .int .i64 s.step] 57)) wr.heap.size 57 #[.int .i64 s.part, .int .i64 s.shift, .int .i64 s.bits, .int .i64 s.least, .int .i64 s.most, .int .i64 s.step] := Blk.new _ _ _
      have kf := And.intro (Blk.six KS) (((KIR.out.alloc (.cells #[.int .i64 s.part, .int .i64 s.shift, .int .i64 s.bits, .int .i64 s.least, .int .i64 s.most, .int .i64 s.step] 57)).cell _).trans (part_cell ⟨op, d, n, m, imm, cond⟩ s.part))
      have HBA : Hid (Below (w3.alloc (.cells #[.int .i64 op, .int .u16 b, .slice (some ⟨g, 0, none⟩) l.length l.length] 53)).heap.size (w3.alloc (.cells #[.int .i64 op, .int .u16 b, .slice (some ⟨g, 0, none⟩) l.length l.length] 53)) (wr.alloc (.cells #[.int .i64 s.part, .int .i64 s.shift, .int .i64 s.bits, .int .i64 s.least, .int .i64 s.most, .int .i64 s.step] 57))) := HBL.out.alloc HBL.out.size _
      generalize hv : Ins.part ⟨op, d, n, m, imm, cond⟩ s.part = v at kf
      generalize hx : encUp b l ⟨op, d, n, m, imm, cond⟩ q = x
      have HV := Lib.hid hv
      have HX := Lib.hid hx
      have HLT := Lib.hid hlt
      clear hv hx KS hs HST
      go_wp2_with fail
      go_region_held3 (fun w' => (w'.cell? ⟨wr.heap.size, 0, none⟩ = some (.int .i64 s.part) ∧ w'.cell? ⟨wr.heap.size, 1, none⟩ = some (.int .i64 s.shift) ∧ w'.cell? ⟨wr.heap.size, 2, none⟩ = some (.int .i64 s.bits) ∧ w'.cell? ⟨wr.heap.size, 3, none⟩ = some (.int .i64 s.least) ∧ w'.cell? ⟨wr.heap.size, 4, none⟩ = some (.int .i64 s.most) ∧ w'.cell? ⟨wr.heap.size, 5, none⟩ = some (.int .i64 s.step)) ∧ w'.cell? ⟨w.heap.size, po s.part, none⟩ = some (.int .i64 v)) (exact kf) (first | (go_at_call 24; refine (part_c _ _ _).mono ?_; rintro e w' ⟨rfl, rfl⟩))
      go_wp2_with fail
      go_region_held3 (fun w' => w'.cell? ⟨wr.heap.size, 0, none⟩ = some (.int .i64 s.part) ∧ w'.cell? ⟨wr.heap.size, 1, none⟩ = some (.int .i64 s.shift) ∧ w'.cell? ⟨wr.heap.size, 2, none⟩ = some (.int .i64 s.bits) ∧ w'.cell? ⟨wr.heap.size, 3, none⟩ = some (.int .i64 s.least) ∧ w'.cell? ⟨wr.heap.size, 4, none⟩ = some (.int .i64 s.most) ∧ w'.cell? ⟨wr.heap.size, 5, none⟩ = some (.int .i64 s.step)) (exact kf.1) (fail)
      go_wp2_with fail
      go_roundw
      case rel => exact ⟨q + 1, by have := HLT.out; omega, by go_num, by rw [HU.out, HX.out]; unfold encStep; rw [HV.out], belowD (belowD HBA.out)⟩
      case measure => have := HLT.out; simp [intOf]; omega
    · have hqe : q = l.length := by omega
      subst hqe
      go_wp2_with fail
      go_ret2
      exact halfAt_one HBR.out
end Go.Proofs.Ytpcjkllhieiiiaa
