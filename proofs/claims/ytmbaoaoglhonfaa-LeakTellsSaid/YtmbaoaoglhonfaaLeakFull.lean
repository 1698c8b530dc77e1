/- The walk of LeakFull. -/
import Derived.Test.YtmbaoaoglhonfaaLeakOf
import Derived.Test.YtmbaoaoglhonfaaView
namespace Go.Proofs.Ytmbaoaoglhonfaa
open Go.RowKit On
theorem trAt_i (w : World) (p : Nat) (g : Option Nat) (l : List Ev) (h : Tr w p g l) (i : Int) (x : Ev) (h0 : 0 ≤ i) (hx : l[i.toNat]? = some x) :
    Calls Try.prog 13 #[.pointer (some ⟨p, 0, none⟩), .int .i64 i] w (AtPost x.val true w) := by
  obtain ⟨k, rfl⟩ := Int.eq_ofNat_of_zero_le h0
  simp only [Int.toNat_natCast] at hx
  obtain ⟨hk, hv⟩ := List.getElem?_eq_some_iff.mp hx
  have := trAt_c w p g l h k hk
  rwa [hv] at this
theorem trAt_x (w : World) (p : Nat) (g : Option Nat) (l : List Ev) (h : Tr w p g l) (i : Int) (x1 x2 x3 x4 : Int) (h0 : 0 ≤ i) (hx : l[i.toNat]? = some ⟨x1, x2, x3, x4⟩) :
    Calls Try.prog 13 #[.pointer (some ⟨p, 0, none⟩), .int .i64 i] w (AtPost (.agg #[.int .i64 x1, .int .i64 x2, .int .i64 x3, .int .i64 x4]) true w) := trAt_i w p g l h i ⟨x1, x2, x3, x4⟩ h0 hx
theorem Tr.alloc {w : World} {p : Nat} {g : Option Nat} {l : List Ev} (h : Tr w p g l) (o : Obj) : Tr (w.alloc o) p g l := h.keep ((Only.refl (fun _ => False) w).alloc _) (fun _ _ h => h)
/-- numbers up to, as many as may be -/
def upto (k : Nat) : List Ev := (List.range (min k 200000)).map fun (i : Nat) => stepEv (i : Int)
theorem upto_len (k : Nat) : (upto k).length = min k 200000 := by unfold upto; simp
theorem upto_succ {k : Nat} (h : k < 200000) : upto (k + 1) = upto k ++ [⟨1, (k : Int), 0, 0⟩] := by
  unfold upto; rw [Nat.min_eq_left (by omega), Nat.min_eq_left (by omega), List.range_succ, List.map_append]; rfl
theorem upto_full {k : Nat} (h : ¬ k < 200000) : upto (k + 1) = upto k := by
  unfold upto; rw [Nat.min_eq_right (by omega), Nat.min_eq_right (by omega)]
theorem upto_at {k i : Nat} (h : i < min k 200000) : (upto k)[i]? = some ⟨1, (i : Int), 0, 0⟩ := by
  unfold upto; rw [List.getElem?_map, List.getElem?_range h]; rfl
def Small (k : Nat) : Prop := k < 200000
set_option maxHeartbeats 1000000 in
theorem leakFull_walk (n : Int) (w : World) : Calls Try.prog 3 #[.int .i64 n] w fun e w' => e = .returned (.bool true) ∧ Below w.heap.size w w' := by
  have n1 : ∀ (w : World) (a : Addr), (binOp .eql 22 (.pointer (some a)) (.pointer none)).run Try.prog w = .ok (.bool false) w := by
    intro w a; go_simp
  obtain ⟨q, hq⟩ : ∃ q, n % 6 = q := ⟨_, rfl⟩
  have q0 : 0 ≤ q := by omega
  have q5 : q ≤ 5 := by omega
  have HQ := Lib.hid hq; clear hq
  go_enter Try.func3, Try.ntmps3
  go_wp2_with (go_at_call 9; (with_reducible refine (trNew_c _).mono ?_); rintro e w' ⟨rfl, rfl⟩)
  have ht := Tr.new w
  have hb : Below w.heap.size w (w.alloc (.cells #[.slice none 0 0] 63)) := (Below.refl _ _).alloc (Nat.le_refl _) _
  generalize w.alloc (.cells #[.slice none 0 0] 63) = w1 at *
  obtain ⟨p, hp⟩ : ∃ p, w.heap.size = p := ⟨_, rfl⟩
  have HB := Lib.hid hb; clear hb
  rw [hp] at ht ⊢
  have HT := Lib.hid ht; clear ht
  have HP := Lib.hid hp; clear hp
  go_wp2_with fail
  refine (leakKnown_c w1).mono ?_
  rintro e w2 ⟨rfl, hb2⟩
  have HR := Lib.hid (Rel.refl (HT.out.below hb2))
  have HB2 := Lib.hid (HB.out.trans (hb2.mono (by have := HB.out.size; have := HP.out; omega)))
  clear hb2
  go_wp2_with fail
  refine (pickN n 6 (by omega) (by omega) w2).mono ?_
  rintro e w' ⟨rfl, rfl⟩
  rw [HQ.out]
  go_wp2_with fail
  go_loopw [4] (fun i wr => ∃ k : Nat, (k : Int) ≤ 199997 + q ∧ i = .int .i64 k ∧ Rel w2 p none (upto k) wr) (fun i _ => (199997 + q - intOf i).toNat)
  case atStart => exact ⟨0, by omega, rfl, by have := HR.out; unfold upto; simpa using this⟩
  case round =>
    obtain ⟨k, hk, rfl, hr⟩ := hrel
    have HRR := Lib.hid hr; clear hr
    by_cases hlt : (k : Int) < 199997 + q
    · by_cases hf : k < 200000
      · have hd : decide ((k : Int) < 200000) = true := by rw [decide_eq_true_iff]; omega
        have HF : Hid ((upto k).length < 200000) := by unfold Hid; rw [upto_len]; omega
        have HS := Lib.hid (upto_succ hf)
        clear hf
        go_wp2_with (go_at_call 12; (with_reducible refine (rel_add_c w2 _ p none _ _ _ _ _ HRR.out HF.out).mono ?_); rintro e w3 ⟨rfl, hr2⟩; have HR2 := Lib.hid hr2; clear hr2)
        go_roundw
        case rel => exact ⟨k + 1, by omega, by go_num, by rw [HS.out]; exact HR2.out⟩
        case measure => simp [intOf]; omega
      · have hd : decide ((k : Int) < 200000) = false := by rw [decide_eq_false_iff_not]; omega
        have HF : Hid (200000 ≤ (upto k).length) := by unfold Hid; rw [upto_len]; omega
        have HS := Lib.hid (upto_full hf)
        clear hf
        obtain ⟨g, hg, hgr⟩ := HRR.out
        have HG := Lib.hid hg; clear hg hgr
        go_wp2_with (go_at_call 12; (with_reducible refine (trAdd_full _ p g _ _ _ _ _ HG.out HF.out).mono ?_); rintro e w3 ⟨rfl, rfl⟩)
        go_roundw
        case rel => exact ⟨k + 1, by omega, by go_num, by rw [HS.out]; exact HRR.out⟩
        case measure => simp [intOf]; omega
    · have hkk : (k : Int) = 199997 + q := by omega
      obtain ⟨g, hg, hgr, hO⟩ := HRR.out
      have HG := Lib.hid hg
      have HBB : Hid (Below p w wr) := by
        have hB := HB2.out; rw [HP.out] at hB
        exact hB.trans (hO.below (by have := HP.out; have := hB.size; omega) (by rintro j (h | h); omega; cases h))
      clear hg hgr hO
      have HK := Lib.hid hkk; clear hkk
      by_cases hm : 200000 < 199997 + q
      · have hx : Hid ((upto k)[(199999 : Int).toNat]? = some ⟨1, 199999, 0, 0⟩) := by
          have := HK.out; exact upto_at (k := k) (i := 199999) (by omega)
        have hl : (((upto k).length : Int) == 200000) = true := by have := HK.out; rw [beq_iff_eq, upto_len]; omega
        go_wp2_with (go_at_call 13; (refine (trAt_x _ p g _ HG.out _ _ _ _ _ (by omega) hx.out).mono ?_); rintro e w3 ⟨rfl, hb3⟩; have HB3 := Lib.hid hb3; clear hb3)
        go_wp2_with (go_at_call 14; (refine (trLen_c _ p g _ ((HG.out.below HB3.out).alloc _)).mono ?_); rintro e w4 ⟨rfl, rfl⟩)
        go_ret
        refine ⟨rfl, ?_⟩
        rw [HP.out]
        exact (HBB.out.trans (HB3.out.mono (by have := HBB.out.size; have := HP.out; omega))).alloc (by have := HBB.out.size; have := HB3.out.size; have := HP.out; omega) _
      · have hx : Hid ((upto k)[(199997 + q - 1).toNat]? = some ⟨1, 199997 + q - 1, 0, 0⟩) := by
          have := HK.out
          have h2 := upto_at (k := k) (i := (199997 + q - 1).toNat) (by omega)
          have h3 : (((199997 + q - 1).toNat : Nat) : Int) = 199997 + q - 1 := by omega
          rw [h3] at h2; exact h2
        have hl : (((upto k).length : Int) == 199997 + q) = true := by have := HK.out; rw [beq_iff_eq, upto_len]; omega
        go_wp2_with (go_at_call 13; (refine (trAt_x _ p g _ HG.out _ _ _ _ _ (by omega) hx.out).mono ?_); rintro e w3 ⟨rfl, hb3⟩; have HB3 := Lib.hid hb3; clear hb3)
        go_wp2_with (go_at_call 14; (refine (trLen_c _ p g _ ((HG.out.below HB3.out).alloc _)).mono ?_); rintro e w4 ⟨rfl, rfl⟩)
        go_ret
        refine ⟨rfl, ?_⟩
        rw [HP.out]
        exact (HBB.out.trans (HB3.out.mono (by have := HBB.out.size; have := HP.out; omega))).alloc (by have := HBB.out.size; have := HB3.out.size; have := HP.out; omega) _
theorem leakFull_top (v0 : Value) (w : World) (u0 : Vw.Arg Try.prog w 3 v0) :
    Calls Try.prog 3 #[v0] w fun e w' => e = .returned (.bool true) ∧ Below w.heap.size w w' := by
  obtain ⟨n, rfl, _⟩ := u0.int Try.underlying3
  exact leakFull_walk n w
end Go.Proofs.Ytmbaoaoglhonfaa
