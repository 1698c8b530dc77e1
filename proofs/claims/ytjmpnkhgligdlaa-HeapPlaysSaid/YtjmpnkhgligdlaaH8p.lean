/- Arrays cleared, bytes put: plain lists; steps one behind the other. No program in sight. -/
import Derived.Test.YtjmpnkhgligdlaaHs
namespace Go.Proofs.Hv
open Go.RowKit Go.Proofs.On
def goneB (life owner : Int) (a : Ar) : Bool := (life == 1 && a.life != 0) || (life == 2 && a.life == 2 && a.owner == owner)
def zeros (a : Ar) : Ar := a.with' (List.replicate a.data.length 0)
def clr1 (life owner : Int) (a : Ar) : Ar := if goneB life owner a = true then zeros a else a
def clrTo (life owner : Int) (L : List Ar) (k : Nat) : List Ar := (L.take k).map (clr1 life owner) ++ L.drop k
def goneN (life owner : Int) (L : List Ar) : Int := ((L.filter (goneB life owner)).length : Int)
theorem clrTo_zero (life owner : Int) (L : List Ar) : clrTo life owner L 0 = L := by simp [clrTo]
theorem clrTo_all (life owner : Int) (L : List Ar) : clrTo life owner L L.length = L.map (clr1 life owner) := by simp [clrTo]
theorem clrTo_len (life owner : Int) (L : List Ar) (k : Nat) : (clrTo life owner L k).length = L.length := by simp [clrTo]; omega
theorem clrTo_get (life owner : Int) (L : List Ar) (k : Nat) : (clrTo life owner L k)[k]? = L[k]? := by
  unfold clrTo
  by_cases h : k < L.length
  · rw [List.getElem?_append_right (by simp; omega)]; simp; congr 1; omega
  · rw [List.getElem?_eq_none (by simp; omega), List.getElem?_eq_none (by omega)]
theorem clrTo_succ {life owner : Int} {L : List Ar} {k : Nat} {a : Ar} (h : L[k]? = some a) : clrTo life owner L (k + 1) = (clrTo life owner L k).set k (clr1 life owner a) := by
  obtain ⟨hk, e⟩ := List.getElem?_eq_some_iff.mp h
  unfold clrTo
  rw [List.take_succ_eq_append_getElem hk, List.map_append, e, List.drop_eq_getElem_cons hk, e]
  rw [List.set_append_right _ _ (by simp; omega)]
  have : k - ((L.take k).map (clr1 life owner)).length = 0 := by simp; omega
  rw [this]; simp
theorem clrTo_same {life owner : Int} {L : List Ar} {k : Nat} {a : Ar} (h : L[k]? = some a) (hg : goneB life owner a = false) : clrTo life owner L (k + 1) = clrTo life owner L k := by
  rw [clrTo_succ h]
  have e : clr1 life owner a = a := by unfold clr1; rw [hg]; simp
  rw [e]
  apply List.ext_getElem?
  intro j
  by_cases hj : k = j
  · subst hj
    rw [List.getElem?_set_self (by rw [clrTo_len]; exact (List.getElem?_eq_some_iff.mp h).1), clrTo_get, h]
  · rw [List.getElem?_set_ne hj]
theorem goneN_succ {life owner : Int} {L : List Ar} {k : Nat} {a : Ar} (h : L[k]? = some a) : goneN life owner (L.take (k + 1)) = goneN life owner (L.take k) + (if goneB life owner a = true then 1 else 0) := by
  obtain ⟨hk, e⟩ := List.getElem?_eq_some_iff.mp h
  unfold goneN
  rw [List.take_succ_eq_append_getElem hk, List.filter_append, e]
  by_cases hg : goneB life owner a = true
  · simp [hg]
  · simp [hg]
theorem goneN_le (life owner : Int) (L : List Ar) (k : Nat) : 0 ≤ goneN life owner (L.take k) ∧ goneN life owner (L.take k) ≤ k := by
  unfold goneN
  have := List.length_filter_le (goneB life owner) (L.take k)
  have := List.length_take_le k L
  omega
theorem More.start {u arrT ty : TypeId} {w : World} {B p : Nat} {sz : Int} {L : List Ar} {F : Nat → Prop} (h : At u arrT ty w B p sz L F) : At u arrT ty w B p sz L (More F w w) :=
  h.mono (fun k hk => .inl hk) (fun k hk => by rcases hk with hk | ⟨h1, h2⟩; exact h.lt hk; omega)
/-- two steps one behind the other -/
theorem More.chain {u arrT ty : TypeId} {w wr w' : World} {B p : Nat} {sz : Int} {L : List Ar} {F : Nat → Prop} (h : At u arrT ty w' B p sz L (More (More F w wr) wr w')) (hO : Only F w wr) (hO' : Only (More F w wr) wr w') :
    At u arrT ty w' B p sz L (More F w w') ∧ Only F w w' := by
  have hs := hO.size
  have hs' := hO'.size
  refine ⟨h.mono (fun k hk => ?_) (fun k hk => ?_), hO.trans hO' (fun i hi hm => ?_)⟩
  · rcases hk with (hk | ⟨h1, h2⟩) | ⟨h1, h2⟩
    · exact .inl hk
    · exact .inr ⟨h1, by omega⟩
    · exact .inr ⟨by omega, h2⟩
  · rcases hk with hk | ⟨h1, h2⟩
    · exact h.lt (.inl (.inl hk))
    · by_cases e : k < wr.heap.size
      · exact h.lt (.inl (.inr ⟨h1, e⟩))
      · exact h.lt (.inr ⟨by omega, h2⟩)
  · rcases hm with hm | ⟨h1, _⟩
    · exact hm
    · omega
/-- bytes put one behind the other -/
def puts (xs : List Int) (at_ : Nat) (bs : List Int) : Nat → List Int
  | 0 => xs
  | k + 1 => (puts xs at_ bs k).set (at_ + k) (bs.getD k 0)
theorem puts_len (xs : List Int) (at_ : Nat) (bs : List Int) (k : Nat) : (puts xs at_ bs k).length = xs.length := by
  induction k with
  | zero => rfl
  | succ k ih => simp [puts, ih]
theorem puts_one (xs : List Int) (at_ : Nat) (b : Int) : puts xs at_ [b] 1 = xs.set at_ b := rfl
theorem puts_get {xs bs : List Int} {at_ k j : Nat} (hk : at_ + k ≤ xs.length) : (puts xs at_ bs k)[j]? = if at_ ≤ j ∧ j < at_ + k then some (bs.getD (j - at_) 0) else xs[j]? := by
  induction k with
  | zero => rw [if_neg (by omega)]; rfl
  | succ k ih =>
    show ((puts xs at_ bs k).set (at_ + k) (bs.getD k 0))[j]? = _
    by_cases e : at_ + k = j
    · subst e
      rw [List.getElem?_set_self (by rw [puts_len]; omega), if_pos (by omega)]
      congr 2; omega
    · rw [List.getElem?_set_ne e, ih (by omega)]
      by_cases h : at_ ≤ j ∧ j < at_ + k
      · rw [if_pos h, if_pos (by omega)]
      · rw [if_neg h, if_neg (by omega)]
theorem puts_zeros (xs : List Int) : puts xs 0 (List.replicate xs.length 0) xs.length = List.replicate xs.length 0 := by
  apply List.ext_getElem?
  intro j
  rw [puts_get (by omega)]
  by_cases h : j < xs.length
  · rw [if_pos (by omega)]; simp [List.getD_eq_getElem?_getD, h]
  · rw [if_neg (by omega), List.getElem?_eq_none (by omega), List.getElem?_eq_none (by simp; omega)]
end Go.Proofs.Hv
