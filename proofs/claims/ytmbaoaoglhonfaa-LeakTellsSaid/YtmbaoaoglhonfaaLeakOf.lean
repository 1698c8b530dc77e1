/- Traces behind many Adds; of, known. -/
import Derived.Test.YtmbaoaoglhonfaaTrAll
namespace Go.Proofs.Ytmbaoaoglhonfaa
open Go.RowKit On
/-- a trace, behind some Adds since a world -/
def Rel (w0 : World) (p : Nat) (g0 : Option Nat) (l : List Ev) (w : World) : Prop :=
  ∃ g, Tr w p g l ∧ (g = g0 ∨ ∃ k, g = some k ∧ w0.heap.size ≤ k) ∧ Only (TrB p g0) w0 w
theorem Rel.refl {w : World} {p : Nat} {g : Option Nat} {l : List Ev} (h : Tr w p g l) : Rel w p g l w := ⟨g, h, .inl rfl, Only.refl _ _⟩
theorem Rel.add {w0 w w' : World} {p : Nat} {g0 g : Option Nat} {l' : List Ev} (hg : g = g0 ∨ ∃ k, g = some k ∧ w0.heap.size ≤ k) (hO : Only (TrB p g0) w0 w)
    (h : ∃ g', Tr w' p g' l' ∧ (g' = g ∨ ∃ k, g' = some k ∧ w.heap.size ≤ k) ∧ Only (TrB p g) w w') : Rel w0 p g0 l' w' := by
  obtain ⟨g', h1, h2, h3⟩ := h
  refine ⟨g', h1, ?_, hO.trans h3 ?_⟩
  · rcases h2 with rfl | ⟨k, hk, hk2⟩
    · exact hg
    · exact .inr ⟨k, hk, Nat.le_trans hO.size hk2⟩
  · rintro i hi (h | h)
    · exact .inl h
    · rcases hg with rfl | ⟨k, rfl, hk⟩
      · exact .inr h
      · injection h with h; omega
theorem Rel.only {w0 w w' : World} {p : Nat} {g0 : Option Nat} {l : List Ev} {S : Nat → Prop} (h : Rel w0 p g0 l w) (hO : Only S w w') (hS : ∀ k, S k → w.heap.size ≤ k) : Rel w0 p g0 l w' := by
  obtain ⟨g, h1, h2, h3⟩ := h
  refine ⟨g, h1.keep hO (fun k hk hs => ?_), h2, h3.trans hO (fun i hi hs => ?_)⟩
  · have := h1.lt k hk; have := hS k hs; omega
  · have := hS i hs; have := h3.size; omega
theorem Rel.alloc {w0 w : World} {p : Nat} {g0 : Option Nat} {l : List Ev} (h : Rel w0 p g0 l w) (o : Obj) : Rel w0 p g0 l (w.alloc o) := h.only (S := fun _ => False) ((Only.refl _ w).alloc o) (fun _ h => h.elim)
theorem rel_add_c (w0 w : World) (p : Nat) (g0 : Option Nat) (l : List Ev) (x1 x2 x3 x4 : Int) (h : Rel w0 p g0 l w) (hl : l.length < 200000) :
    Calls Try.prog 12 #[.pointer (some ⟨p, 0, none⟩), .int .i64 x1, .int .i64 x2, .int .i64 x3, .int .i64 x4] w fun e w' => e = .returned (.bool true) ∧ Rel w0 p g0 (l ++ [⟨x1, x2, x3, x4⟩]) w' := by
  obtain ⟨g, h1, h2, h3⟩ := h
  refine (trAdd_c w p g l ⟨x1, x2, x3, x4⟩ h1 hl).mono ?_
  rintro e w' ⟨rfl, hh⟩
  exact ⟨rfl, Rel.add h2 h3 hh⟩
def stepEv (n : Int) : Ev := ⟨1, n, 0, 0⟩
/-- a new trace of numbers -/
def OfPost (w : World) (zs : List Int) (e : Ending) (w' : World) : Prop :=
  ∃ p g, e = .returned (.pointer (some ⟨p, 0, none⟩)) ∧ Tr w' p g (zs.map stepEv) ∧ (∀ k, TrB p g k → w.heap.size ≤ k) ∧ Below w.heap.size w w'
set_option maxHeartbeats 400000 in
theorem of_c (w : World) (b n c : Nat) (zs : List Int) (hz : zs.length = n) (hn : n ≤ 1000) (hc : ∀ i, i < n → w.cell? ⟨b, i, none⟩ = some (.int .i64 (zs.getD i 0))) (hb : b < w.heap.size) :
    Calls Try.prog 18 #[.slice (some ⟨b, 0, none⟩) n c] w (OfPost w zs) := by
  have HC := Lib.hid hc; clear hc
  have HZ := Lib.hid hz; clear hz
  go_enter Try.func18, Try.ntmps18
  go_wp2_with (go_at_call 9; (with_reducible refine (trNew_c _).mono ?_); rintro e w' ⟨rfl, rfl⟩)
  have HR := Lib.hid (Rel.refl (Tr.new w))
  obtain ⟨w1, hw1⟩ : ∃ w1, w.alloc (.cells #[.slice none 0 0] 63) = w1 := ⟨_, rfl⟩
  have HW : Hid (w1.heap.size = w.heap.size + 1 ∧ ∀ q : Addr, q.block < w.heap.size → w1.cell? q = w.cell? q) := by
    subst hw1; exact ⟨by simp, fun q hq => World.cell?_alloc_lt _ _ _ hq⟩
  have HB : Hid (Below w.heap.size w w1) := by subst hw1; exact (Below.refl _ _).alloc (Nat.le_refl _) _
  rw [hw1] at HR ⊢
  clear hw1
  generalize hp : w.heap.size = p at *
  have HP := Lib.hid hp; clear hp
  go_loopw [4] (fun i wr => ∃ k : Nat, k ≤ n ∧ i = .int .i64 k ∧ Rel w1 p none ((zs.take k).map stepEv) wr) (fun i _ => n - (intOf i).toNat)
  case atStart => exact ⟨0, Nat.zero_le _, rfl, HR.out⟩
  case round =>
    obtain ⟨k, hk, rfl, hr⟩ := hrel
    have HRR := Lib.hid hr; clear hr
    by_cases hlt : k < n
    · have hcell : wr.cell? ⟨b, k, none⟩ = some (.int .i64 (zs.getD k 0)) := by
        obtain ⟨g, h1, h2, h3⟩ := HRR.out
        have hb1 : b ≠ p := by omega
        rw [h3.cell (p := ⟨b, k, none⟩) (by have := HW.out.1; simp; omega) (by rintro (h | h); exact hb1 h; cases h), HW.out.2 ⟨b, k, none⟩ (by have := HP.out; simp; omega)]
        exact HC.out k hlt
      have HT : Hid ((zs.take (k + 1)).map stepEv = (zs.take k).map stepEv ++ [stepEv (zs.getD k 0)]) := by
        unfold Hid
        have hkz : k < zs.length := by rw [HZ.out]; exact hlt
        rw [List.take_succ_eq_append_getElem hkz, List.map_append]
        simp [List.getD_eq_getElem?_getD, hkz]
      have HLL : Hid (((zs.take k).map stepEv).length < 200000) := by unfold Hid; simp; omega
      generalize zs.getD k 0 = z at *
      go_wp2_with (go_at_call 12; (with_reducible refine (rel_add_c w1 _ p none _ _ _ _ _ HRR.out HLL.out).mono ?_); rintro e w2 ⟨rfl, hr2⟩; have HR2 := Lib.hid hr2; clear hr2)
      go_roundw
      case rel => exact ⟨k + 1, by omega, by go_num, by rw [HT.out]; exact HR2.out⟩
      case measure => simp [intOf]; omega
    · have : k = n := by omega
      subst this
      go_wp2
      go_ret
      obtain ⟨g, h1, h2, h3⟩ := HRR.out
      rw [List.take_of_length_le (Nat.le_of_eq HZ.out)] at h1
      refine ⟨p, g, rfl, h1, ?_, ?_⟩
      · rintro k (rfl | rfl)
        · have := HP.out; omega
        rcases h2 with h | ⟨q, h, hq⟩
        · cases h
        · injection h with h; have := HW.out.1; have := HP.out; omega
      · have h4 : Below w.heap.size w1 wr := h3.below (by have := HW.out.1; have := HP.out; omega) (by
          rintro q (h | h)
          · have := HP.out; omega
          · cases h)
        have := HB.out
        rw [← HP.out] at this
        exact this.trans h4
theorem same_res3 : SameRes ([1, 2, 3].map stepEv) ([1, 2, 4].map stepEv) 2 := .inr ⟨2, rfl, by decide, by decide⟩
theorem Tr.o {w : World} {p : Nat} {g : Option Nat} {l : List Ev} (h : Tr w p g l) : OTr w (some ⟨p, 0, none⟩) l := .inr ⟨p, g, rfl, h⟩
theorem Tr.drewN {w : World} {p : Nat} {g : Option Nat} {l : List Ev} (h : Tr w p g l) (n : Nat) : Tr (w.drewN n) p g l := h
theorem Tr.below {w w' : World} {p : Nat} {g : Option Nat} {l : List Ev} (h : Tr w p g l) (hb : Below w.heap.size w w') : Tr w' p g l :=
  h.keep (S := fun _ => False) (Only.of_below hb) (fun _ _ h => h)
set_option maxHeartbeats 400000 in
theorem leakKnown_c (w : World) : Calls Try.prog 10 #[] w fun e w' => e = .returned (.bool true) ∧ Below w.heap.size w w' := by
  have n1 : ∀ (w : World) (a : Addr), (binOp .neq 22 (.pointer (some a)) (.pointer none)).run Try.prog w = .ok (.bool true) w := by
    intro w a; go_simp
  go_enter Try.func10, Try.ntmps10
  go_wp2_with fail
  refine (of_c (w.alloc (.cells #[.int .i64 1, .int .i64 2, .int .i64 3] 3)) w.heap.size 3 3 [1, 2, 3] rfl (by omega) ?_ (by simp)).mono ?_
  · intro i hi
    have hh : (w.alloc (.cells #[.int .i64 1, .int .i64 2, .int .i64 3] 3)).heap[w.heap.size]? = some (.cells #[.int .i64 1, .int .i64 2, .int .i64 3] 3 (0, 0)) := heap_alloc_new w _
    rw [cell_of_row _ w.heap.size i _ _ _ hh]
    match i, hi with
    | 0, _ => rfl
    | 1, _ => rfl
    | 2, _ => rfl
  rintro e w1 ⟨p1, g1, rfl, ht1, _, hb1⟩
  have HT1 := Lib.hid ht1; clear ht1
  have HB1 : Hid (Below w.heap.size w w1) := ((Below.refl _ _).alloc (Nat.le_refl _) _).trans (hb1.mono (by simp))
  have hz : w.heap.size < w1.heap.size := by have := hb1.size; simp at this; omega
  clear hb1
  go_wp2_with fail
  refine (of_c (w1.alloc (.cells #[.int .i64 1, .int .i64 2, .int .i64 4] 3)) w1.heap.size 3 3 [1, 2, 4] rfl (by omega) ?_ (by simp)).mono ?_
  · intro i hi
    have hh : (w1.alloc (.cells #[.int .i64 1, .int .i64 2, .int .i64 4] 3)).heap[w1.heap.size]? = some (.cells #[.int .i64 1, .int .i64 2, .int .i64 4] 3 (0, 0)) := heap_alloc_new w1 _
    rw [cell_of_row _ w1.heap.size i _ _ _ hh]
    match i, hi with
    | 0, _ => rfl
    | 1, _ => rfl
    | 2, _ => rfl
  rintro e w2 ⟨p2, g2, rfl, ht2, _, hb2⟩
  have HT2 := Lib.hid ht2; clear ht2
  have hb3 : Below w1.heap.size w1 w2 := ((Below.refl _ _).alloc (Nat.le_refl _) _).trans (hb2.mono (by simp))
  have HT3 := Lib.hid (HT1.out.below hb3)
  have HB2 := Lib.hid (HB1.out.trans (hb3.mono (by have := HB1.out.size; omega)))
  clear hb2 hb3
  go_wp2_with fail
  refine (same_e w2 _ _ _ _ HT3.out.o HT2.out.o).mono ?_
  rintro e w' ⟨r, rfl, hr, q, rfl⟩
  obtain rfl := hr.unique same_res3
  clear hr
  go_wp2_with fail
  refine (same_e (w2.drewN q) _ _ _ _ (HT3.out.drewN q).o (HT3.out.drewN q).o).mono ?_
  rintro e w' ⟨r, rfl, hr, q2, rfl⟩
  obtain rfl := hr.unique (.inl ⟨rfl, rfl⟩)
  clear hr
  go_wp2_with fail
  go_ret
  exact ⟨rfl, below_drewN HB2.out _⟩
end Go.Proofs.Ytmbaoaoglhonfaa
