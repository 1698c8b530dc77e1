/- ThumbKnown. -/
import Derived.Test.YtpcjkllhieiiiaaThS
import Derived.BigGuardPart
namespace Go.Proofs.Ytpcjkllhieiiiaa
open Go.RowKit On Th
theorem decode_lit {s : Value} {xs : List Int} {w : World} (op d n m imm cond k e' : Int) (hr : decS xs = (⟨op, d, n, m, imm, cond⟩, k, e')) (h : Hw w s xs) : Calls Try.prog 17 #[s] w fun e w' => e = .returned (.tuple #[.agg #[.int .i64 op, .int .i64 d, .int .i64 n, .int .i64 m, .int .i64 imm, .int .i64 cond], .int .i64 k, .int .i64 e']) ∧ Below w.heap.size w w' := by
  have := decode_c h
  rw [hr] at this
  exact this
theorem hw_nil' (w : World) : Hw w (.slice none 0 0) [] := ⟨none, 0, rfl, fun k x h => by simp at h⟩
theorem hw_one' (w : World) (g : Nat) (x : Int) (hg : g = w.heap.size) (h0 : 0 ≤ x) (h1 : x < 65536) : Hw (w.alloc (.cells #[.int .u16 x] 37)) (.slice (some ⟨g, 0, none⟩) 1 1) [x] :=
  ⟨_, 1, rfl, fun k y h => by
    subst hg
    cases k with
    | zero => simp at h; subst h; exact ⟨h0, h1, _, _, rfl, (Blk.new w 37 #[.int .u16 x]).cell 0⟩
    | succ k => simp at h⟩
theorem hw_two' (w : World) (g : Nat) (x y : Int) (hg : g = w.heap.size) (h0 : 0 ≤ x) (h1 : x < 65536) (h2 : 0 ≤ y) (h3 : y < 65536) : Hw (w.alloc (.cells #[.int .u16 x, .int .u16 y] 37)) (.slice (some ⟨g, 0, none⟩) 2 2) [x, y] :=
  ⟨_, 2, rfl, fun k v h => by
    subst hg
    match k with
    | 0 => simp at h; subst h; exact ⟨h0, h1, _, _, rfl, (Blk.new w 37 #[.int .u16 x, .int .u16 y]).cell 0⟩
    | 1 => simp at h; subst h; exact ⟨h2, h3, _, _, rfl, (Blk.new w 37 #[.int .u16 x, .int .u16 y]).cell 1⟩
    | k + 2 => simp at h⟩
set_option maxHeartbeats 8000000 in
set_option maxRecDepth 10000 in
theorem thumbKnown_top (w : World) : Calls Try.prog 7 #[] w fun e w' => e = .returned (.bool true) ∧ Below w.heap.size w w' := by
  have p0 : Hid (∀ w, Calls Try.prog 20 #[.agg #[.int .i64 2, .int .i64 1, .int .i64 0, .int .i64 2, .int .i64 32, .int .i64 0]] w fun e w' => e = .returned (.int .i64 2065) ∧ Below w.heap.size w w') := word_c 2 1 0 2 32 0 2065 (by decide +kernel) (by decide) (by decide)
  have p1 : Hid (∀ w, Calls Try.prog 20 #[.agg #[.int .i64 39, .int .i64 0, .int .i64 0, .int .i64 0, .int .i64 496, .int .i64 0]] w fun e w' => e = .returned (.int .i64 46576) ∧ Below w.heap.size w w') := word_c 39 0 0 0 496 0 46576 (by decide +kernel) (by decide) (by decide)
  have p2 : Hid (∀ w, Calls Try.prog 20 #[.agg #[.int .i64 28, .int .i64 8, .int .i64 0, .int .i64 14, .int .i64 0, .int .i64 0]] w fun e w' => e = .returned (.int .i64 18160) ∧ Below w.heap.size w w') := word_c 28 8 0 14 0 0 18160 (by decide +kernel) (by decide) (by decide)
  have p3 : Hid (∀ w, Calls Try.prog 20 #[.agg #[.int .i64 25, .int .i64 1, .int .i64 0, .int .i64 2, .int .i64 0, .int .i64 0]] w fun e w' => e = .returned (.int .i64 17233) ∧ Below w.heap.size w w') := word_c 25 1 0 2 0 0 17233 (by decide +kernel) (by decide) (by decide)
  have e2 : Hid (decS [61440] = (⟨0, 0, 0, 0, 0, 0⟩, 0, 7)) := by show decS [61440] = _; decide +kernel
  have e3 : Hid (decS [56832] = (⟨0, 0, 0, 0, 0, 0⟩, 0, 8)) := by show decS [56832] = _; decide +kernel
  have e4 : Hid (decS [63487, 65534] = (⟨43, 0, 0, 0, -4, 0⟩, 2, 0)) := by show decS [63487, 65534] = _; decide +kernel
  have e5 : Hid (rightS ⟨8, 8, 0, 0, 0, 0⟩ = false) := by show rightS ⟨8, 8, 0, 0, 0, 0⟩ = false; decide +kernel
  go_enter Try.func7, Try.ntmps7
  go_wp2_with fail
  refine (decode_lit 0 0 0 0 0 0 0 7 rfl (hw_nil' _)).mono ?_
  rintro e w1 ⟨rfl, hb⟩
  have H1 := Lib.hid ((hb.alloc hb.size (.cells #[.int .i64 0, .int .i64 0, .int .i64 0, .int .i64 0, .int .i64 0, .int .i64 0] 24)).alloc (by have := hb.size; simp; omega) (.cells #[.int .u16 61440] 37))
  clear hb
  go_wp2_with fail
  refine (decode_lit 0 0 0 0 0 0 0 7 e2.out (hw_one' _ _ _ (by simp only [World.size_alloc]) (by decide) (by decide))).mono ?_
  rintro e w2 ⟨rfl, hb⟩
  have H2 := Lib.hid (((H1.out.trans (hb.mono H1.out.size)).alloc (by have := H1.out.size; have := hb.size; omega) (.cells #[.int .i64 0, .int .i64 0, .int .i64 0, .int .i64 0, .int .i64 0, .int .i64 0] 24)).alloc (by have := H1.out.size; have := hb.size; simp; omega) (.cells #[.int .u16 56832] 37))
  clear hb H1
  go_wp2_with fail
  refine (decode_lit 0 0 0 0 0 0 0 8 e3.out (hw_one' _ _ _ (by simp only [World.size_alloc]) (by decide) (by decide))).mono ?_
  rintro e w3 ⟨rfl, hb⟩
  have H3 := Lib.hid (((H2.out.trans (hb.mono H2.out.size)).alloc (by have := H2.out.size; have := hb.size; omega) (.cells #[.int .i64 0, .int .i64 0, .int .i64 0, .int .i64 0, .int .i64 0, .int .i64 0] 24)).alloc (by have := H2.out.size; have := hb.size; simp; omega) (.cells #[.int .u16 63487, .int .u16 65534] 37))
  clear hb H2
  go_wp2_with fail
  refine (decode_lit 43 0 0 0 (-4) 0 2 0 e4.out (hw_two' _ _ _ _ (by simp only [World.size_alloc]) (by decide) (by decide) (by decide) (by decide))).mono ?_
  rintro e w4 ⟨rfl, hb⟩
  have H4 := Lib.hid ((H3.out.trans (hb.mono H3.out.size)).alloc (by have := H3.out.size; have := hb.size; omega) (.cells #[.int .i64 43, .int .i64 0, .int .i64 0, .int .i64 0, .int .i64 (-4), .int .i64 0] 24))
  have K4 := Lib.hid (Blk.new w4 24 #[.int .i64 43, .int .i64 0, .int .i64 0, .int .i64 0, .int .i64 (-4), .int .i64 0])
  clear hb H3
  go_wp2_with fail
  refine (encode_c ⟨8, 8, 0, 0, 0, 0⟩ _).mono ?_
  intro e w5 h
  rw [e5.out, if_neg (by simp)] at h
  obtain ⟨rfl, hb⟩ := h
  have H5 := Lib.hid (H4.out.trans (hb.mono H4.out.size))
  have K5 := Lib.hid (K4.out.only (S := fun _ => False) (Only.of_below hb) id)
  clear hb H4 K4
  go_wp2_with fail
  refine (known_c _).mono ?_
  rintro e w6 ⟨rfl, hb⟩
  have H6 := Lib.hid (H5.out.trans (hb.mono H5.out.size))
  have k6 := K5.out.only (S := fun _ => False) (Only.of_below hb) id
  have K6 := Lib.hid k6
  have c0 := k6.cell 0
  have c1 := k6.cell 1
  have c2 := k6.cell 2
  have c3 := k6.cell 3
  have c4 := k6.cell 4
  have c5 := k6.cell 5
  simp at c0 c1 c2 c3 c4 c5
  clear hb H5 K5 k6
  go_wp2_with fail
  refine (size_c 43 0 0 0 (-4) 0 _).mono ?_
  rintro e w7 ⟨rfl, hb⟩
  rw [if_pos rfl]
  have H7 := Lib.hid (H6.out.trans (hb.mono H6.out.size))
  clear hb H6 K6 c0 c1 c2 c3 c4 c5
  go_wp2_with fail
  refine (size_c 45 0 0 0 0 0 _).mono ?_
  rintro e w8 ⟨rfl, hb⟩
  rw [if_neg (by decide)]
  have H8 := Lib.hid (H7.out.trans (hb.mono H7.out.size))
  clear hb H7
  go_wp2_with fail
  refine (p0.out _).mono ?_
  rintro e w9 ⟨rfl, hb⟩
  have H9 := Lib.hid (H8.out.trans (hb.mono H8.out.size))
  clear hb H8
  go_wp2_with fail
  refine (p1.out _).mono ?_
  rintro e w10 ⟨rfl, hb⟩
  have H10 := Lib.hid (H9.out.trans (hb.mono H9.out.size))
  clear hb H9
  go_wp2_with fail
  refine (p2.out _).mono ?_
  rintro e w11 ⟨rfl, hb⟩
  have H11 := Lib.hid (H10.out.trans (hb.mono H10.out.size))
  clear hb H10
  go_wp2_with fail
  refine (p3.out _).mono ?_
  rintro e w12 ⟨rfl, hb⟩
  have H12 := Lib.hid (H11.out.trans (hb.mono H11.out.size))
  clear hb H11
  go_wp2_with fail
  go_ret
  exact ⟨rfl, H12.out⟩
end Go.Proofs.Ytpcjkllhieiiiaa
