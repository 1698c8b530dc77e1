/- A row of rows of bytes, each in a block of its own. No program in sight. -/
import Derived.Test.YtjmpnkhgligdlaaHv
namespace Go.Proofs.Hv
open Go.RowKit Go.Proofs.On
structure HdV (u e : TypeId) (w : World) (B : Nat) (V : Value) (R : List (List Int × Value)) : Prop where
  row : w.ownsRow B e 1 V R.length (R.map Prod.snd)
  dat : ∀ (i : Nat) x, R[i]? = some x → Dw u w B x.2 x.1
def HdF (V : Value) (R : List (List Int × Value)) (k : Nat) : Prop := V.ownBlock = some k ∨ ∃ (i : Nat) (x : List Int × Value), R[i]? = some x ∧ dB x.2 x.1 = some k
def HdA (R : List (List Int × Value)) : Prop := ∀ (i j : Nat) x y k, R[i]? = some x → R[j]? = some y → i ≠ j → dB x.2 x.1 = some k → dB y.2 y.1 ≠ some k
section
variable {u e : TypeId} {w w' : World} {B : Nat} {V : Value} {R : List (List Int × Value)}
theorem HdV.lt (h : HdV u e w B V R) {k : Nat} (hk : HdF V R k) : B ≤ k ∧ k < w.heap.size := by
  rcases hk with hk | ⟨i, x, hx, hk⟩
  · exact h.row.lt k hk
  · exact (h.dat i x hx).lt hk
theorem HdV.keep {S : Nat → Prop} (h : HdV u e w B V R) (hO : Only S w w') (hn : ∀ k, HdF V R k → ¬ S k) : HdV u e w' B V R :=
  ⟨own_only h.row hO (fun k hk => hn k (.inl hk)), fun i x hx => (h.dat i x hx).keep hO (fun k hk => hn k (.inr ⟨i, x, hx, hk⟩))⟩
theorem HdV.below (h : HdV u e w B V R) (hb : Below w.heap.size w w') : HdV u e w' B V R :=
  h.keep (S := fun _ => False) (Only.of_below hb) (fun _ _ h => h)
theorem HdV.dat_ne_row (h : HdV u e w B V R) (hne : u ≠ e) {i : Nat} {x : List Int × Value} (hx : R[i]? = some x) {k : Nat} (hk : dB x.2 x.1 = some k) : V.ownBlock ≠ some k := by
  obtain ⟨hn, hk⟩ := dB_some hk
  obtain ⟨A, c, e1, _, _, _, _, h5⟩ := h.dat i x hx
  obtain ⟨g, cur, rfl, _, hb, _⟩ := h5 hn
  rw [e1] at hk; simp [Value.ownBlock] at hk; subst hk
  obtain ⟨A', c', rfl, h2⟩ := own_slice h.row
  rcases h2 with ⟨rfl, _⟩ | ⟨q, cur', rfl, _, hb', _⟩
  · simp [Value.ownBlock]
  · simp [Value.ownBlock]; intro e2; exact hb.ne hb' hne e2.symm
/-- the row's value, and a cell of it -/
theorem HdV.cell (h : HdV u e w B V R) {i : Nat} {x : List Int × Value} (hx : R[i]? = some x) : ∃ q c, V = .slice (some ⟨q, 0, none⟩) R.length c ∧ w.cell? ⟨q, i, none⟩ = some x.2 ∧ q < w.heap.size := by
  have hi : i < R.length := (List.getElem?_eq_some_iff.mp hx).1
  have hr := h.row
  obtain ⟨A, c, rfl, h2⟩ := own_slice hr
  rcases h2 with ⟨_, h3, _⟩ | ⟨g, cur, rfl, h3, hb, h4, h5, _⟩
  · omega
  · refine ⟨g, c, rfl, ?_, hb.lt⟩
    rw [hr.cellAt i (by omega)]; simp [hx]
theorem HdV.form (h : HdV u e w B V R) : ∃ A c, V = .slice A R.length c := own_form h.row
/-- a byte written -/
theorem HdV.put (h : HdV u e w B V R) (hne : u ≠ e) (ha : HdA R) {i : Nat} {x : List Int × Value} (hx : R[i]? = some x) {g : Nat} (hg : dB x.2 x.1 = some g) (j : Nat) {z : Int} (hz : 0 ≤ z ∧ z ≤ 255) :
    HdV u e (w.setCell ⟨g, j, none⟩ (.int .u8 z)) B V (R.set i (x.1.set j z, x.2)) ∧ HdA (R.set i (x.1.set j z, x.2)) ∧
      (∀ k, HdF V (R.set i (x.1.set j z, x.2)) k → HdF V R k) ∧ Only (fun k => k = g) w (w.setCell ⟨g, j, none⟩ (.int .u8 z)) := by
  have hi : i < R.length := (List.getElem?_eq_some_iff.mp hx).1
  have hO : Only (fun k => k = g) w (w.setCell ⟨g, j, none⟩ (.int .u8 z)) := only_set _ _ _ _
  have hset : ∀ (i' : Nat) (y : List Int × Value), (R.set i (x.1.set j z, x.2))[i']? = some y → (i' = i ∧ y = (x.1.set j z, x.2)) ∨ (i' ≠ i ∧ R[i']? = some y) := by
    intro i' y hy
    by_cases e1 : i' = i
    · subst e1; rw [List.getElem?_set_self hi] at hy; injection hy with hy; exact .inl ⟨rfl, hy.symm⟩
    · rw [List.getElem?_set_ne (by omega)] at hy; exact .inr ⟨e1, hy⟩
  have hdb : ∀ (i' : Nat) (y : List Int × Value) k, (R.set i (x.1.set j z, x.2))[i']? = some y → dB y.2 y.1 = some k → ∃ y', R[i']? = some y' ∧ dB y'.2 y'.1 = some k := by
    intro i' y k hy hk
    rcases hset i' y hy with ⟨rfl, rfl⟩ | ⟨_, hy⟩
    · exact ⟨x, hx, by have : dB x.2 (x.1.set j z) = some k := hk; rwa [dB_set] at this⟩
    · exact ⟨y, hy, hk⟩
  refine ⟨⟨?_, ?_⟩, ?_, ?_, hO⟩
  · have := own_only h.row hO (fun k hk e1 => (h.dat_ne_row hne hx hg) (by rw [hk, e1]))
    rw [List.length_set]
    have e1 : (R.set i (x.1.set j z, x.2)).map Prod.snd = R.map Prod.snd := by
      rw [List.map_set]
      apply List.ext_getElem?
      intro m
      by_cases e2 : i = m
      · subst e2; rw [List.getElem?_set_self (by simp; exact hi)]; simp [hx]
      · rw [List.getElem?_set_ne e2]
    rw [e1]; exact this
  · intro i' y hy
    rcases hset i' y hy with ⟨rfl, rfl⟩ | ⟨hne, hy⟩
    · exact (h.dat i' x hx).put hg hz
    · exact (h.dat i' y hy).keep hO (fun k hk e1 => by subst e1; exact ha i i' x y k hx hy (Ne.symm hne) hg hk)
  · intro i1 i2 y1 y2 k g1 g2 hne k1 k2
    obtain ⟨z1, a1, b1⟩ := hdb i1 y1 k g1 k1
    obtain ⟨z2, a2, b2⟩ := hdb i2 y2 k g2 k2
    exact ha i1 i2 z1 z2 k a1 a2 hne b1 b2
  · rintro k (hk | ⟨i', y, hy, hk⟩)
    · exact .inl hk
    · obtain ⟨y', a, b⟩ := hdb i' y k hy hk
      exact .inr ⟨i', y', a, b⟩
/-- a row more -/
theorem HdV.push (h : HdV u e w B V R) (hne : u ≠ e) (ha : HdA R) {w1 : World} {V' D : Value} {xs : List Int} {N0 : Nat} (hlt : ∀ k, HdF V R k → k < N0) (hO : Only (fun k => V.ownBlock = some k) w w1)
    (hrow : w1.ownsRow B e 1 V' (R.length + 1) (R.map Prod.snd ++ [D])) (hD : Dw u w1 B D xs) (hfr : ∀ k, dB D xs = some k → N0 ≤ k) (hV' : ∀ k, V'.ownBlock = some k → V.ownBlock = some k ∨ N0 ≤ k) :
    HdV u e w1 B V' (R ++ [(xs, D)]) ∧ HdA (R ++ [(xs, D)]) ∧ (∀ k, HdF V' (R ++ [(xs, D)]) k → HdF V R k ∨ N0 ≤ k) := by
  have hget : ∀ (i' : Nat) (y : List Int × Value), (R ++ [(xs, D)])[i']? = some y → (i' = R.length ∧ y = (xs, D)) ∨ R[i']? = some y := by
    intro i' y hy
    rcases Nat.lt_or_ge i' R.length with hlt | hge
    · rw [List.getElem?_append_left hlt] at hy; exact .inr hy
    · rw [List.getElem?_append_right hge] at hy
      have : i' - R.length = 0 := by
        rcases Nat.eq_zero_or_pos (i' - R.length) with h | h
        · exact h
        · rw [List.getElem?_eq_none (by simp; omega)] at hy; cases hy
      rw [this] at hy; simp at hy; exact .inl ⟨by omega, hy.symm⟩
  refine ⟨⟨?_, ?_⟩, ?_, ?_⟩
  · rw [List.length_append, List.length_singleton, List.map_append]; exact hrow
  · intro i' y hy
    rcases hget i' y hy with ⟨_, rfl⟩ | hy
    · exact hD
    · exact (h.dat i' y hy).keep hO (fun k hk e1 => h.dat_ne_row hne hy hk e1)
  · intro i1 i2 y1 y2 k g1 g2 hn k1 k2
    rcases hget i1 y1 g1 with ⟨rfl, rfl⟩ | a1
    · rcases hget i2 y2 g2 with ⟨rfl, rfl⟩ | a2
      · exact hn rfl
      · have := hfr k k1; have := hlt k (.inr ⟨i2, y2, a2, k2⟩); omega
    · rcases hget i2 y2 g2 with ⟨rfl, rfl⟩ | a2
      · have := hfr k k2; have := hlt k (.inr ⟨i1, y1, a1, k1⟩); omega
      · exact ha i1 i2 y1 y2 k a1 a2 hn k1 k2
  · rintro k (hk | ⟨i', y, hy, hk⟩)
    · rcases hV' k hk with h1 | h1
      · exact .inl (.inl h1)
      · exact .inr h1
    · rcases hget i' y hy with ⟨_, rfl⟩ | hy
      · exact .inr (hfr k hk)
      · exact .inl (.inr ⟨i', y, hy, hk⟩)
end
end Go.Proofs.Hv
