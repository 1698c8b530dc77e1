/- Slices of bytes that came in or were made: what the walk is told of them; plain facts on bytes. No program in sight. -/
import Derived.WalkKit
import Derived.Deep.Draws
import Derived.Laws.BitsAllLaws
import Derived.Laws.BytesArg
import Derived.Laws.Strings
import Derived.OwnWalk
namespace Go.Proofs.By
open Go.RowKit

/-- a slice's value and its elements: bytes -/
structure Bs (w : World) (A : Option Addr) (n : Nat) (xs : List Int) : Prop where
  len : xs.length = n
  byte : ∀ x ∈ xs, 0 ≤ x ∧ x ≤ 255
  none_ : A = none → n = 0
  cell : ∀ b o s i, A = some ⟨b, o, s⟩ → i < n → w.cell? ⟨b, o + i, none⟩ = some (.int .u8 (xs.getD i 0)) ∧ s = none ∧ b < w.heap.size

theorem or_zero {a b : Nat} : a ||| b = 0 ↔ a = 0 ∧ b = 0 := by
  constructor
  · intro h
    constructor
    · apply Nat.eq_of_testBit_eq; intro i
      have := congrArg (fun n => n.testBit i) h
      simp [Nat.testBit_or] at this ⊢; exact this.1
    · apply Nat.eq_of_testBit_eq; intro i
      have := congrArg (fun n => n.testBit i) h
      simp [Nat.testBit_or] at this ⊢; exact this.2
  · rintro ⟨rfl, rfl⟩; rfl
theorem xor_zero {a b : Nat} : a ^^^ b = 0 ↔ a = b := by
  constructor
  · intro h; apply Nat.eq_of_testBit_eq; intro i
    have := congrArg (fun n => n.testBit i) h
    simp only [Nat.testBit_xor, Nat.zero_testBit] at this
    revert this; cases a.testBit i <;> cases b.testBit i <;> simp
  · rintro rfl; exact Nat.xor_self a
theorem orx (v x y : Int) (hv : 0 ≤ v ∧ v ≤ 255) (hx : 0 ≤ x ∧ x ≤ 255) (hy : 0 ≤ y ∧ y ≤ 255) :
    0 ≤ bits .or .u8 v (bits .xor .u8 x y) ∧ bits .or .u8 v (bits .xor .u8 x y) ≤ 255 ∧ (bits .or .u8 v (bits .xor .u8 x y) = 0 ↔ v = 0 ∧ x = y) := by
  obtain ⟨v, rfl⟩ := Int.eq_ofNat_of_zero_le hv.1
  obtain ⟨x, rfl⟩ := Int.eq_ofNat_of_zero_le hx.1
  obtain ⟨y, rfl⟩ := Int.eq_ofNat_of_zero_le hy.1
  have hxy : x ^^^ y < 2 ^ 8 := Nat.xor_lt_two_pow (by omega) (by omega)
  rw [u8_xor_nat x y (by omega) (by omega), u8_or_nat v _ (by omega) (by omega)]
  have ho : v ||| (x ^^^ y) < 2 ^ 8 := Nat.or_lt_two_pow (by omega) (by omega)
  refine ⟨by omega, by omega, ?_⟩
  have h1 := @or_zero v (x ^^^ y)
  have h2 := @xor_zero x y
  omega
theorem take_eq_succ (xs ys : List Int) (k : Nat) (hx : k < xs.length) (hy : k < ys.length) :
    xs.take (k + 1) = ys.take (k + 1) ↔ xs.take k = ys.take k ∧ xs.getD k 0 = ys.getD k 0 := by
  rw [List.take_succ_eq_append_getElem hx, List.take_succ_eq_append_getElem hy]
  constructor
  · intro h
    have := List.append_inj' h rfl
    refine ⟨this.1, ?_⟩
    simpa [List.getD_eq_getElem?_getD, hx, hy] using this.2
  · rintro ⟨h1, h2⟩
    rw [h1]
    simp [List.getD_eq_getElem?_getD, hx, hy] at h2
    rw [h2]
theorem getD_mem {xs : List Int} {k : Nat} (h : k < xs.length) : xs.getD k 0 ∈ xs := by
  rw [List.getD_eq_getElem?_getD, List.getElem?_eq_getElem h]; exact List.getElem_mem h
/-- a byte of a list, without a condition -/
theorem getD_byte {xs : List Int} (h : ∀ x ∈ xs, 0 ≤ x ∧ x ≤ 255) (k : Nat) : 0 ≤ xs.getD k 0 ∧ xs.getD k 0 ≤ 255 := by
  by_cases hk : k < xs.length
  · exact h _ (getD_mem hk)
  · rw [List.getD_eq_getElem?_getD, List.getElem?_eq_none (by omega)]; simp
/-- the string of bytes -/
theorem run_conv {P : Program} {w : World} {A : Option Addr} {n : Nat} {xs : List Int} (h : Bs w A n xs) (src e dst : TypeId) (hs : P.underlying src = some (.slice e)) (he : P.underlying e = some (.int .u8)) (hd : P.underlying dst = some .string) (c : Nat) :
    (convert src dst (.slice A n c)).run P w = .ok (.string (strOfNums xs)) w := by
  cases A with
  | none =>
    have h0 := h.none_ rfl
    have : xs = [] := List.eq_nil_of_length_eq_zero (h.len.trans h0)
    subst this
    rw [run_convert_bytes_nil w src e hs he n c dst hd]; rfl
  | some a =>
    by_cases hn : n = 0
    · subst hn
      have : xs = [] := List.eq_nil_of_length_eq_zero h.len
      subst this
      rw [run_convert_bytes_string w src dst e _ 0 c hs he hd, run_bytesToString w _ 0 c [] (run_loadCells_list w a [] (by simp))]
      rfl
    · obtain ⟨b, o, s⟩ := a
      obtain ⟨_, rfl, _⟩ := h.cell b o s 0 rfl (by omega)
      exact run_convert_bytes_arg w src e hs he b o n c xs h.len (fun i hi => (h.cell b o none i rfl hi).1) dst hd
theorem str_eq {xs ys : List Int} (hx : ∀ x ∈ xs, 0 ≤ x ∧ x ≤ 255) (hy : ∀ x ∈ ys, 0 ≤ x ∧ x ≤ 255) : ((strOfNums xs).toList == (strOfNums ys).toList) = (xs == ys) := by
  rw [ByteArray.toList_eq, ByteArray.toList_eq, strOfNums_data, strOfNums_data, Bool.eq_iff_iff, beq_iff_eq, beq_iff_eq]
  constructor
  · intro h
    induction xs generalizing ys with
    | nil => cases ys with
      | nil => rfl
      | cons y ys => simp at h
    | cons x xs ih => cases ys with
      | nil => simp at h
      | cons y ys =>
        simp only [List.map_cons, List.cons.injEq] at h
        have h1 := congrArg UInt8.toNat h.1
        simp only [UInt8.toNat_ofNat'] at h1
        have hx0 := hx x (by simp); have hy0 := hy y (by simp)
        have : x = y := by omega
        subst this
        rw [ih (fun z hz => hx z (by simp [hz])) (fun z hz => hy z (by simp [hz])) h.2]
  · rintro rfl; rfl
/-- the same bytes in a later world -/
theorem Bs.keep {w w' : World} {A : Option Addr} {n : Nat} {xs : List Int} (h : Bs w A n xs) (hk : ∀ p : Addr, p.block < w.heap.size → w'.cell? p = w.cell? p) (hs : w.heap.size ≤ w'.heap.size) : Bs w' A n xs :=
  ⟨h.len, h.byte, h.none_, fun b o s i hA hi => by
    obtain ⟨h1, h2, h3⟩ := h.cell b o s i hA hi
    exact ⟨(hk _ h3).trans h1, h2, Nat.lt_of_lt_of_le h3 hs⟩⟩
theorem Bs.below {w w' : World} {A : Option Addr} {n : Nat} {xs : List Int} (h : Bs w A n xs) (hb : Below w.heap.size w w') : Bs w' A n xs := h.keep (fun _ hp => hb.cell hp) hb.size
/-- a row of the call's own -/
theorem Bs.own {w : World} {base : Nat} {e : TypeId} {A : Option Addr} {n c : Nat} {xs : List Int} (h : w.ownsRow base e 1 (.slice A n c) n (xs.map (Value.int .u8))) (hx : ∀ x ∈ xs, 0 ≤ x ∧ x ≤ 255) : Bs w A n xs := by
  have hl : xs.length = n := by have := h.1; simpa using this
  refine ⟨hl, hx, ?_, ?_⟩
  · rintro rfl
    rcases h.2 with ⟨_, h2⟩ | ⟨g, cap, cur, h2, _⟩
    · exact h2
    · simp at h2
  · rintro b o s i rfl hi
    rcases h.2 with ⟨h2, _⟩ | ⟨g, cap, cur, h2, hb, hh, _⟩
    · simp at h2
    · simp only [Value.slice.injEq, Option.some.injEq, Addr.mk.injEq] at h2
      obtain ⟨⟨rfl, rfl, rfl⟩, _, rfl⟩ := h2
      have hc := h.cells (g := b) rfl i (.int .u8 (xs.getD i 0)) (by rw [List.getElem?_map, List.getElem?_eq_getElem (by omega), List.getD_eq_getElem?_getD, List.getElem?_eq_getElem (by omega)]; rfl)
      have e : (⟨b, 0, none⟩ : Addr).add i = ⟨b, 0 + i, none⟩ := by unfold Addr.add; split <;> simp_all
      rw [e] at hc
      exact ⟨hc, rfl, (Array.getElem?_eq_some_iff.1 hh).1⟩
/-- one byte written -/
theorem Bs.put {w : World} {b o : Nat} {n k : Nat} {xs : List Int} (h : Bs w (some ⟨b, o, none⟩) n xs) (hk : k < n) {z : Int} (hz : 0 ≤ z ∧ z ≤ 255) : Bs (w.setCell ⟨b, o + k, none⟩ (.int .u8 z)) (some ⟨b, o, none⟩) n (xs.set k z) := by
  refine ⟨by rw [List.length_set]; exact h.len, ?_, by simp, ?_⟩
  · intro x hx
    rcases List.mem_or_eq_of_mem_set hx with h1 | rfl
    · exact h.byte x h1
    · exact hz
  · rintro b' o' s i hA hi
    simp only [Option.some.injEq, Addr.mk.injEq] at hA
    obtain ⟨rfl, rfl, rfl⟩ := hA
    obtain ⟨h1, h2, h3⟩ := h.cell b o none i rfl hi
    refine ⟨?_, rfl, by simpa [World.setCell] using h3⟩
    by_cases e : i = k
    · subst e
      rw [World.cell?_setCell_same _ _ _ h1]
      rw [List.getD_eq_getElem?_getD, List.getElem?_set_self (by rw [h.len]; exact hi)]; rfl
    · rw [World.cell?_setCell_other w _ _ _ (fun h => e (by injection h with _ h _; omega)), h1, List.getD_eq_getElem?_getD, List.getD_eq_getElem?_getD, List.getElem?_set_ne (by omega)]
end Go.Proofs.By
