/- The walk of LeakKnown. -/
import Derived.Test.YtmbaoaoglhonfaaLeakFull
namespace Go.Proofs.Ytmbaoaoglhonfaa
open Go.RowKit On
theorem three_cells (w : World) (x y z : Int) : ∀ i, i < 3 → (w.alloc (.cells #[.int .i64 x, .int .i64 y, .int .i64 z] 3)).cell? ⟨w.heap.size, i, none⟩ = some (.int .i64 ([x, y, z].getD i 0)) := by
  intro i hi
  rw [(Blk.new w 3 #[.int .i64 x, .int .i64 y, .int .i64 z]).cell i]
  match i, hi with
  | 0, _ => rfl
  | 1, _ => rfl
  | 2, _ => rfl
theorem two_cells (w : World) (x y : Int) : ∀ i, i < 2 → (w.alloc (.cells #[.int .i64 x, .int .i64 y] 3)).cell? ⟨w.heap.size, i, none⟩ = some (.int .i64 ([x, y].getD i 0)) := by
  intro i hi
  rw [(Blk.new w 3 #[.int .i64 x, .int .i64 y]).cell i]
  match i, hi with
  | 0, _ => rfl
  | 1, _ => rfl
theorem Blk.below {w w' : World} {b : Nat} {t : TypeId} {cs : Array Value} (h : Blk w b t cs) (hb : Below w.heap.size w w') : Blk w' b t cs := (hb.block b h.lt).trans h
theorem Below.tr {B : Nat} {a b c : World} (h : Below B a b) (k : Below b.heap.size b c) (hB : B ≤ a.heap.size) : Below B a c := h.trans (k.mono (Nat.le_trans hB h.size))
def l123 : List Ev := [1, 2, 3].map stepEv
set_option maxHeartbeats 1000000 in
theorem leakKnown_walk (w : World) : Calls Try.prog 5 #[] w fun e w' => e = .returned (.bool true) ∧ Below w.heap.size w w' := by
  have n1 : ∀ (w : World) (a : Addr), (binOp .eql 22 (.pointer (some a)) (.pointer none)).run Try.prog w = .ok (.bool false) w := by
    intro w a; go_simp
  obtain ⟨B, hB⟩ : ∃ B, w.heap.size = B := ⟨_, rfl⟩
  rw [hB]
  have HBw := Lib.hid hB
  go_enter Try.func5, Try.ntmps5
  clear hB
  go_wp2_with fail
  refine (of_c (w.alloc (.cells #[.int .i64 1, .int .i64 2, .int .i64 3] 3)) w.heap.size 3 3 [1, 2, 3] rfl (by omega) (three_cells w 1 2 3) (by simp)).mono ?_
  rintro e w1 ⟨p, g, rfl, ht, hf, hb⟩
  have HT1 : Hid (Tr w1 p g l123) := ht
  have HF : Hid (∀ k, TrB p g k → B ≤ k) := fun k hk => by have := hf k hk; rw [World.size_alloc, HBw.out] at this; omega
  have HB1 : Hid (Below B w w1) := by
    have := ((Below.refl _ w).alloc (Nat.le_refl _) _).trans (hb.mono (by simp))
    rw [HBw.out] at this; exact this
  clear ht hf hb
  go_wp2_with fail
  refine (leakKnown_c w1).mono ?_
  rintro e w2 ⟨rfl, hb⟩
  have HT2 := Lib.hid (HT1.out.below hb)
  have HB2 : Hid (Below B w w2) := Below.tr HB1.out hb (Nat.le_of_eq HBw.out.symm)
  clear hb
  go_wp2_with fail
  refine (trAt_x w2 p g l123 HT2.out 1 1 2 0 0 (by omega) rfl).mono ?_
  rintro e w3 ⟨rfl, hb⟩
  have HT3 := Lib.hid ((HT2.out.below hb).alloc (.cells #[.int .i64 1, .int .i64 2, .int .i64 0, .int .i64 0] 28))
  have HC3 := Lib.hid (Blk.new w3 28 #[.int .i64 1, .int .i64 2, .int .i64 0, .int .i64 0])
  have HB3 : Hid (Below B w (w3.alloc (.cells #[.int .i64 1, .int .i64 2, .int .i64 0, .int .i64 0] 28))) :=
    (Below.tr HB2.out hb (Nat.le_of_eq HBw.out.symm)).alloc (by have := HB2.out.size; have := hb.size; have := HBw.out; omega) _
  clear hb
  go_wp2_with fail
  generalize w3.alloc (.cells #[.int .i64 1, .int .i64 2, .int .i64 0, .int .i64 0] 28) = w4 at *
  generalize w3.heap.size = c at *
  refine (trAt_no w4 p g l123 HT3.out 3 (.inr (by decide))).mono ?_
  rintro e w5 ⟨rfl, hb⟩
  unfold Ev.val
  have HT4 := Lib.hid ((HT3.out.below hb).alloc (.cells #[.int .i64 0, .int .i64 0, .int .i64 0, .int .i64 0] 28))
  have HC4 := Lib.hid ((Blk.below HC3.out hb).alloc (.cells #[.int .i64 0, .int .i64 0, .int .i64 0, .int .i64 0] 28))
  have HB4 : Hid (Below B w (w5.alloc (.cells #[.int .i64 0, .int .i64 0, .int .i64 0, .int .i64 0] 28))) :=
    (Below.tr HB3.out hb (Nat.le_of_eq HBw.out.symm)).alloc (by have := HB3.out.size; have := hb.size; have := HBw.out; omega) _
  clear hb
  go_wp2_with fail
  generalize w5.alloc (.cells #[.int .i64 0, .int .i64 0, .int .i64 0, .int .i64 0] 28) = w6 at *
  generalize w5.heap.size = c5 at *
  refine (trLen_c w6 p g l123 HT4.out).mono ?_
  rintro e w' ⟨rfl, rfl⟩
  go_wp2_with fail
  refine (of_c (w6.alloc (.cells #[.int .i64 1, .int .i64 2] 3)) w6.heap.size 2 2 [1, 2] rfl (by omega) (two_cells w6 1 2) (by simp)).mono ?_
  rintro e w7 ⟨p2, g2, rfl, ht, _, hb0⟩
  have hb : Below w6.heap.size w6 w7 := ((Below.refl _ w6).alloc (Nat.le_refl _) _).trans (hb0.mono (by simp))
  have HT5 := Lib.hid (HT4.out.below hb)
  have HU5 := Lib.hid ht
  have HC5 := Lib.hid (Blk.below HC4.out hb)
  have HB5 : Hid (Below B w w7) := Below.tr HB4.out hb (Nat.le_of_eq HBw.out.symm)
  clear hb hb0 ht
  go_wp2_with fail
  refine (same_e w7 _ _ _ _ HT5.out.o HU5.out.o).mono ?_
  rintro e w' ⟨r, rfl, hr, q1, rfl⟩
  obtain rfl := hr.unique (s := 2) (.inr ⟨2, rfl, by decide, by decide⟩)
  clear hr
  go_wp2_with fail
  refine (same_e (w7.drewN q1) none none [] [] (.inl ⟨rfl, rfl⟩) (.inl ⟨rfl, rfl⟩)).mono ?_
  rintro e w' ⟨r, rfl, hr, q2, rfl⟩
  obtain rfl := hr.unique (s := -1) (.inl ⟨rfl, rfl⟩)
  clear hr
  go_wp2_with fail
  refine (same_e _ (some ⟨p, 0, none⟩) none l123 [] (HT5.out.drewN _).o (.inl ⟨rfl, rfl⟩)).mono ?_
  rintro e w' ⟨r, rfl, hr, q3, rfl⟩
  obtain rfl := hr.unique (s := 0) (.inr ⟨0, rfl, by decide, by decide⟩)
  clear hr
  go_wp2_with fail
  have hne : c ≠ p := Blk.ne HC5.out HT5.out.choose_spec.1 (by decide)
  refine (trClear_c _ p g l123 (HT5.out.drewN _)).mono ?_
  rintro e w8 ⟨rfl, ht, hO⟩
  have HT6 := Lib.hid ht
  have HC6 := Lib.hid ((HC5.out.drewN _).only hO hne)
  have k0 := HC6.out.cell 0
  have k1 := HC6.out.cell 1
  have k2 := HC6.out.cell 2
  have k3 := HC6.out.cell 3
  simp at k0 k1 k2 k3
  have HB6 : Hid (Below B w w8) := (below_drewN HB5.out _).trans (hO.below (by have := HB5.out.size; have := HBw.out; simp; omega) (fun k hk => by subst hk; exact HF.out _ (.inl rfl)))
  clear ht hO hne
  go_wp2_with fail
  refine (trLen_c w8 p none [] HT6.out).mono ?_
  rintro e w' ⟨rfl, rfl⟩
  go_wp2_with fail
  refine (trAll_c w8 p none [] HT6.out (by simp)).mono ?_
  rintro e w9 ⟨A, c', rfl, _, hb⟩
  have HT7 := Lib.hid (HT6.out.below hb)
  have HB7 : Hid (Below B w w9) := Below.tr HB6.out hb (Nat.le_of_eq HBw.out.symm)
  clear hb
  go_wp2_with fail
  refine (same_e w9 (some ⟨p, 0, none⟩) none [] [] HT7.out.o (.inl ⟨rfl, rfl⟩)).mono ?_
  rintro e w' ⟨r, rfl, hr, q4, rfl⟩
  obtain rfl := hr.unique (s := -1) (.inl ⟨rfl, rfl⟩)
  clear hr
  go_wp2_with fail
  go_ret
  exact ⟨rfl, below_drewN HB7.out _⟩
end Go.Proofs.Ytmbaoaoglhonfaa
