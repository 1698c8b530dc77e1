/- Arrays and heaps in memory: what a heap's blocks hold, and how that is kept. No program in sight. -/
import Derived.Test.YtjmpnkhgligdlaaOnly
namespace Go.Proofs.Hv
open Go.RowKit Go.Proofs.On
theorem only_set (w : World) (g j : Nat) (v : Value) : Only (fun k => k = g) w (w.setCell ⟨g, j, none⟩ v) :=
  Only.setCell (S := fun k => k = g) (p := ⟨g, j, none⟩) (Only.refl _ w) (.inl rfl) v
/-- an array of the card's -/
structure Ar where
  owner : Int
  label : Int
  life : Int
  share : Bool
  data : List Int
def Ar.with' (a : Ar) (d : List Int) : Ar := ⟨a.owner, a.label, a.life, a.share, d⟩
def cells5 (x : Ar × Value) : List Value := [.int .i64 x.1.owner, .int .i64 x.1.label, .int .i64 x.1.life, .bool x.1.share, x.2]
def flat : List (Ar × Value) → List Value
  | [] => []
  | x :: R => cells5 x ++ flat R
theorem flat_len (R : List (Ar × Value)) : (flat R).length = R.length * 5 := by
  induction R with
  | nil => rfl
  | cons x R ih => simp only [flat, List.length_append, ih, List.length_cons]; simp [cells5]; omega
theorem flat_append (R S : List (Ar × Value)) : flat (R ++ S) = flat R ++ flat S := by
  induction R with
  | nil => rfl
  | cons x R ih => simp only [List.cons_append, flat, ih, List.append_assoc]
theorem flat_at {R : List (Ar × Value)} : ∀ {i : Nat} {x : Ar × Value} (_ : R[i]? = some x) {j : Nat} (_ : j < 5), (flat R)[i * 5 + j]? = (cells5 x)[j]? := by
  induction R with
  | nil => intro i x h; simp at h
  | cons y R ih =>
    intro i x h j hj
    cases i with
    | zero =>
      simp at h; subst h
      rw [flat, List.getElem?_append_left (by simp [cells5]; omega)]; simp
    | succ i =>
      simp at h
      rw [flat, List.getElem?_append_right (by simp [cells5]; omega), ← ih h hj]
      congr 1; simp [cells5]; omega
theorem flat_set {R : List (Ar × Value)} : ∀ {i : Nat} {x : Ar × Value} (_ : R[i]? = some x) (a : Ar) (D : Value), a.owner = x.1.owner → a.label = x.1.label → a.life = x.1.life → a.share = x.1.share → (flat R).set (i * 5 + 4) D = flat (R.set i (a, D)) := by
  induction R with
  | nil => intro i x h; simp at h
  | cons y R ih =>
    intro i x h a D h1 h2 h3 h4
    cases i with
    | zero =>
      simp at h; subst h
      rw [flat, List.set_append_left _ _ (by simp [cells5])]
      simp [flat, cells5, h1, h2, h3, h4]
    | succ i =>
      simp at h
      rw [flat, List.set_append_right _ _ (by simp [cells5]; omega), List.set_cons_succ, flat, ← ih h a D h1 h2 h3 h4]
      congr 2; simp [cells5]; omega
/-- the bytes xs: in a row of their own, or none -/
def Dw (u : TypeId) (w : World) (B : Nat) (D : Value) (xs : List Int) : Prop :=
  ∃ A c, D = .slice A xs.length c ∧ (A = none → xs = [] ∧ c = 0) ∧ xs.length ≤ c ∧ c ≤ maxLen ∧ (∀ x ∈ xs, 0 ≤ x ∧ x ≤ 255) ∧
    (xs ≠ [] → ∃ g cur, A = some ⟨g, 0, none⟩ ∧ B ≤ g ∧ Blk w g u cur ∧ cur.toList.take xs.length = xs.map (Value.int .u8))
/-- the block where bytes lie, if there are any -/
def dB (D : Value) (xs : List Int) : Option Nat := if xs = [] then none else D.ownBlock
theorem dB_nil (D : Value) : dB D [] = none := if_pos rfl
theorem dB_some {D : Value} {xs : List Int} {k : Nat} (h : dB D xs = some k) : xs ≠ [] ∧ D.ownBlock = some k := by
  unfold dB at h; split at h
  · cases h
  · exact ⟨‹_›, h⟩
section
variable {u : TypeId} {w w' : World} {B : Nat} {D : Value} {xs : List Int}
theorem Dw.byte (h : Dw u w B D xs) : ∀ x ∈ xs, 0 ≤ x ∧ x ≤ 255 := by obtain ⟨_, _, _, _, _, _, h, _⟩ := h; exact h
theorem Dw.lt (h : Dw u w B D xs) {k : Nat} (hk : dB D xs = some k) : B ≤ k ∧ k < w.heap.size := by
  obtain ⟨hx, hk⟩ := dB_some hk
  obtain ⟨A, c, rfl, _, _, _, _, h5⟩ := h
  obtain ⟨g, cur, rfl, h6, h7, _⟩ := h5 hx
  simp [Value.ownBlock] at hk; subst hk
  exact ⟨h6, h7.lt⟩
theorem Dw.keep {S : Nat → Prop} (h : Dw u w B D xs) (hO : Only S w w') (hn : ∀ k, dB D xs = some k → ¬ S k) : Dw u w' B D xs := by
  obtain ⟨A, c, rfl, h1, h2, h3, h4, h5⟩ := h
  refine ⟨A, c, rfl, h1, h2, h3, h4, fun hx => ?_⟩
  obtain ⟨g, cur, rfl, h6, h7, h8⟩ := h5 hx
  exact ⟨g, cur, rfl, h6, h7.only hO (hn g (by unfold dB; rw [if_neg hx]; rfl)), h8⟩
theorem Dw.mono {B' : Nat} (h : Dw u w B D xs) (hB : B' ≤ B) : Dw u w B' D xs := by
  obtain ⟨A, c, rfl, h1, h2, h3, h4, h5⟩ := h
  refine ⟨A, c, rfl, h1, h2, h3, h4, fun hx => ?_⟩
  obtain ⟨g, cur, rfl, h6, h7, h8⟩ := h5 hx
  exact ⟨g, cur, rfl, by omega, h7, h8⟩
theorem Dw.slice (h : Dw u w B D xs) : ∃ A c, D = .slice A xs.length c ∧ (A = none → xs = [] ∧ c = 0) ∧ xs.length ≤ c := by
  obtain ⟨A, c, h0, h1, h2, _⟩ := h; exact ⟨A, c, h0, h1, h2⟩
/-- a byte's cell -/
theorem Dw.cell (h : Dw u w B D xs) {i : Nat} (hi : i < xs.length) : ∃ g c, D = .slice (some ⟨g, 0, none⟩) xs.length c ∧ w.cell? ⟨g, i, none⟩ = some (.int .u8 (xs.getD i 0)) ∧ w.frozen? ⟨g, i, none⟩ = false ∧ dB D xs = some g := by
  have hx : xs ≠ [] := by rintro rfl; simp at hi
  obtain ⟨A, c, rfl, _, _, _, _, h5⟩ := h
  obtain ⟨g, cur, rfl, _, h7, h8⟩ := h5 hx
  refine ⟨g, c, rfl, ?_, h7.frozen i, by unfold dB; rw [if_neg hx]; rfl⟩
  rw [h7.cell]
  have : (cur.toList.take xs.length)[i]? = (xs.map (Value.int .u8))[i]? := by rw [h8]
  rw [List.getElem?_take, if_pos hi, List.getElem?_map] at this
  rw [← Array.getElem?_toList, this, List.getD_eq_getElem?_getD, List.getElem?_eq_getElem hi]; rfl
/-- all the bytes' cells, as append reads them -/
theorem Dw.src (h : Dw u w B D xs) : ∃ A c, D = .slice A xs.length c ∧ (A = none → c = 0) ∧ Src w A xs.length 1 (xs.map (Value.int .u8)) := by
  have hh := h
  obtain ⟨A, c, rfl, h1, _, _, _, h5⟩ := h
  refine ⟨A, c, rfl, fun e => (h1 e).2, ⟨by simp, fun e => by rw [(h1 e).1]; rfl, ?_, ?_⟩⟩
  · intro ad hA j v hv
    rw [List.getElem?_map, Option.map_eq_some_iff] at hv
    obtain ⟨y, hy, rfl⟩ := hv
    obtain ⟨hj, hy⟩ := List.getElem?_eq_some_iff.mp hy
    obtain ⟨g, c', hD, hc, _⟩ := hh.cell hj
    injection hD with hD; rw [hA] at hD; injection hD with hD; subst hD
    have e : (⟨g, 0, none⟩ : Addr).add j = ⟨g, j, none⟩ := by unfold Addr.add; split <;> simp_all
    rw [e, hc, List.getD_eq_getElem?_getD, List.getElem?_eq_getElem hj, ← hy]; rfl
  · intro v hv
    rw [List.mem_map] at hv; obtain ⟨y, _, rfl⟩ := hv; rfl
theorem Dw.nil : Dw u w B (.slice none 0 0) [] := ⟨none, 0, rfl, fun _ => ⟨rfl, rfl⟩, Nat.le_refl _, by simp [maxLen], by simp, fun h => absurd rfl h⟩
/-- out of a row that the call owns -/
theorem Dw.own {n : Nat} (h : w.ownsRow B u 1 D n (xs.map (Value.int .u8))) (hb : ∀ x ∈ xs, 0 ≤ x ∧ x ≤ 255) : Dw u w B D xs := by
  have hl : xs.length = n := by have := h.1; simpa using this
  subst hl
  rcases h.2 with ⟨rfl, h0⟩ | ⟨g, cap, cur, rfl, h1, h2, h3, h4, h5, h6⟩
  · have : xs = [] := List.eq_nil_of_length_eq_zero h0
    subst this; exact Dw.nil
  · exact ⟨_, cap, rfl, nofun, h3, h4, hb, fun _ => ⟨g, cur, rfl, h1, h2, by rw [Nat.mul_one] at h6; exact h6⟩⟩
/-- a byte written -/
theorem Dw.put (h : Dw u w B D xs) {i g : Nat} (hg : dB D xs = some g) {z : Int} (hz : 0 ≤ z ∧ z ≤ 255) : Dw u (w.setCell ⟨g, i, none⟩ (.int .u8 z)) B D (xs.set i z) := by
  obtain ⟨hx, hg⟩ := dB_some hg
  obtain ⟨A, c, rfl, h1, h2, h3, h4, h5⟩ := h
  obtain ⟨g', cur, rfl, h6, h7, h8⟩ := h5 hx
  simp [Value.ownBlock] at hg; subst hg
  refine ⟨some ⟨g', 0, none⟩, c, by rw [List.length_set], nofun, by rw [List.length_set]; exact h2, h3, ?_, fun _ => ⟨g', _, rfl, h6, h7.set i _, ?_⟩⟩
  · intro x hx
    rcases List.mem_or_eq_of_mem_set hx with h | rfl
    · exact h4 x h
    · exact hz
  · rw [List.length_set, Array.toList_setIfInBounds, List.map_set, ← h8, List.take_set]
end
theorem dB_set {D : Value} {xs : List Int} (i : Nat) (z : Int) : dB D (xs.set i z) = dB D xs := by
  unfold dB
  have : (xs.set i z = []) = (xs = []) := by simp
  simp only [this]
/-- what a heap's blocks hold -/
structure HpV (u arrT ty : TypeId) (w : World) (B p : Nat) (sz : Int) (V : Value) (R : List (Ar × Value)) : Prop where
  ge : B ≤ p
  blk : Blk w p ty #[.int .i64 sz, V]
  row : w.ownsRow B arrT 5 V R.length (flat R)
  dat : ∀ (i : Nat) x, R[i]? = some x → Dw u w B x.2 x.1.data
/-- its blocks -/
def Foot (p : Nat) (V : Value) (R : List (Ar × Value)) (k : Nat) : Prop := k = p ∨ V.ownBlock = some k ∨ ∃ (i : Nat) (x : Ar × Value), R[i]? = some x ∧ dB x.2 x.1.data = some k
/-- no two arrays in one block -/
def Apart (R : List (Ar × Value)) : Prop := ∀ (i j : Nat) x y k, R[i]? = some x → R[j]? = some y → i ≠ j → dB x.2 x.1.data = some k → dB y.2 y.1.data ≠ some k
section
variable {u arrT ty : TypeId} {w w' : World} {B p : Nat} {sz : Int} {V : Value} {R : List (Ar × Value)}
theorem HpV.lt (h : HpV u arrT ty w B p sz V R) {k : Nat} (hk : Foot p V R k) : B ≤ k ∧ k < w.heap.size := by
  rcases hk with rfl | hk | ⟨i, x, hx, hk⟩
  · exact ⟨h.ge, h.blk.lt⟩
  · exact h.row.lt k hk
  · exact (h.dat i x hx).lt hk
theorem HpV.keep {S : Nat → Prop} (h : HpV u arrT ty w B p sz V R) (hO : Only S w w') (hn : ∀ k, Foot p V R k → ¬ S k) : HpV u arrT ty w' B p sz V R :=
  ⟨h.ge, h.blk.only hO (hn p (.inl rfl)), own_only h.row hO (fun k hk => hn k (.inr (.inl hk))), fun i x hx => (h.dat i x hx).keep hO (fun k hk => hn k (.inr (.inr ⟨i, x, hx, hk⟩)))⟩
theorem HpV.below (h : HpV u arrT ty w B p sz V R) (hb : Below w.heap.size w w') : HpV u arrT ty w' B p sz V R :=
  h.keep (S := fun _ => False) (Only.of_below hb) (fun _ _ h => h)
theorem HpV.row_ne_p (h : HpV u arrT ty w B p sz V R) (hne : arrT ≠ ty) {q : Nat} (hq : V.ownBlock = some q) : q ≠ p := by
  obtain ⟨A, c, rfl, h2⟩ := own_slice h.row
  rcases h2 with ⟨rfl, _⟩ | ⟨g, cur, rfl, _, hb, _⟩
  · simp [Value.ownBlock] at hq
  · simp [Value.ownBlock] at hq; subst hq; exact hb.ne h.blk hne
theorem HpV.dat_ne_p (h : HpV u arrT ty w B p sz V R) (hne : u ≠ ty) {i : Nat} {x : Ar × Value} (hx : R[i]? = some x) {k : Nat} (hk : dB x.2 x.1.data = some k) : k ≠ p := by
  obtain ⟨hn, hk⟩ := dB_some hk
  obtain ⟨A, c, e, _, _, _, _, h5⟩ := h.dat i x hx
  obtain ⟨g, cur, rfl, _, hb, _⟩ := h5 hn
  rw [e] at hk; simp [Value.ownBlock] at hk; subst hk; exact hb.ne h.blk hne
theorem HpV.dat_ne_row (h : HpV u arrT ty w B p sz V R) (hne : u ≠ arrT) {i : Nat} {x : Ar × Value} (hx : R[i]? = some x) {k : Nat} (hk : dB x.2 x.1.data = some k) : V.ownBlock ≠ some k := by
  obtain ⟨hn, hk⟩ := dB_some hk
  obtain ⟨A, c, e, _, _, _, _, h5⟩ := h.dat i x hx
  obtain ⟨g, cur, rfl, _, hb, _⟩ := h5 hn
  rw [e] at hk; simp [Value.ownBlock] at hk; subst hk
  obtain ⟨A', c', rfl, h2⟩ := own_slice h.row
  rcases h2 with ⟨rfl, _⟩ | ⟨q, cur', rfl, _, hb', _⟩
  · simp [Value.ownBlock]
  · simp [Value.ownBlock]; intro e; exact hb.ne hb' hne e.symm
/-- a cell of the row -/
theorem HpV.cell (h : HpV u arrT ty w B p sz V R) {q n c : Nat} (hV : V = .slice (some ⟨q, 0, none⟩) n c) {i : Nat} {x : Ar × Value} (hx : R[i]? = some x) {j : Nat} (hj : j < 5) : w.cell? ⟨q, i * 5 + j, none⟩ = (cells5 x)[j]? := by
  subst hV
  have hr := h.row
  obtain ⟨_, _, e, _⟩ := own_slice hr
  injection e with _ e2 _; subst e2
  have hi : i < R.length := (List.getElem?_eq_some_iff.mp hx).1
  rw [hr.cellAt (i * 5 + j) (by omega), flat_at hx hj]
theorem HpV.vform (h : HpV u arrT ty w B p sz V R) (hR : R ≠ []) : ∃ q c, V = .slice (some ⟨q, 0, none⟩) R.length c ∧ R.length ≤ c ∧ B ≤ q ∧ q < w.heap.size ∧ c ≤ maxLen := by
  obtain ⟨A, c, rfl, h2⟩ := own_slice h.row
  rcases h2 with ⟨rfl, h3, _⟩ | ⟨g, cur, rfl, h3, hb, h4, h5, _⟩
  · exact absurd (List.eq_nil_of_length_eq_zero h3) hR
  · exact ⟨g, c, rfl, h4, h3, hb.lt, h5⟩
/-- a byte of an array written -/
theorem HpV.put (h : HpV u arrT ty w B p sz V R) (h1 : u ≠ ty) (h2 : u ≠ arrT) (ha : Apart R) {i : Nat} {x : Ar × Value} (hx : R[i]? = some x) {g : Nat} (hg : dB x.2 x.1.data = some g) (j : Nat) {z : Int} (hz : 0 ≤ z ∧ z ≤ 255) :
    HpV u arrT ty (w.setCell ⟨g, j, none⟩ (.int .u8 z)) B p sz V (R.set i (x.1.with' (x.1.data.set j z), x.2)) ∧ Apart (R.set i (x.1.with' (x.1.data.set j z), x.2)) ∧
      (∀ k, Foot p V (R.set i (x.1.with' (x.1.data.set j z), x.2)) k → Foot p V R k) ∧ Only (fun k => k = g) w (w.setCell ⟨g, j, none⟩ (.int .u8 z)) := by
  have hi : i < R.length := (List.getElem?_eq_some_iff.mp hx).1
  have hO : Only (fun k => k = g) w (w.setCell ⟨g, j, none⟩ (.int .u8 z)) := only_set _ _ _ _
  have hset : ∀ (i' : Nat) (y : Ar × Value), (R.set i (x.1.with' (x.1.data.set j z), x.2))[i']? = some y → (i' = i ∧ y = (x.1.with' (x.1.data.set j z), x.2)) ∨ (i' ≠ i ∧ R[i']? = some y) := by
    intro i' y hy
    by_cases e : i' = i
    · subst e; rw [List.getElem?_set_self hi] at hy; injection hy with hy; exact .inl ⟨rfl, hy.symm⟩
    · rw [List.getElem?_set_ne (by omega)] at hy; exact .inr ⟨e, hy⟩
  have hdb : ∀ (i' : Nat) (y : Ar × Value) k, (R.set i (x.1.with' (x.1.data.set j z), x.2))[i']? = some y → dB y.2 y.1.data = some k → ∃ y', R[i']? = some y' ∧ dB y'.2 y'.1.data = some k := by
    intro i' y k hy hk
    rcases hset i' y hy with ⟨rfl, rfl⟩ | ⟨_, hy⟩
    · exact ⟨x, hx, by have : dB x.2 (x.1.data.set j z) = some k := hk; rwa [dB_set] at this⟩
    · exact ⟨y, hy, hk⟩
  refine ⟨⟨h.ge, h.blk.only hO (fun e => (h.dat_ne_p h1 hx hg) e.symm), ?_, ?_⟩, ?_, ?_, hO⟩
  · have := own_only h.row hO (fun k hk e => (h.dat_ne_row h2 hx hg) (by rw [hk, e]))
    rw [List.length_set]
    have e : flat (R.set i (x.1.with' (x.1.data.set j z), x.2)) = flat R := by
      rw [← flat_set (x := x) hx (x.1.with' (x.1.data.set j z)) x.2 rfl rfl rfl rfl]
      apply List.ext_getElem?
      intro m
      by_cases e : i * 5 + 4 = m
      · subst e
        have hf := flat_at hx (show 4 < 5 by omega)
        rw [List.getElem?_set_self (by rw [flat_len]; omega), hf]; rfl
      · rw [List.getElem?_set_ne e]
    rw [e]; exact this
  · intro i' y hy
    rcases hset i' y hy with ⟨rfl, rfl⟩ | ⟨hne, hy⟩
    · exact (h.dat i' x hx).put hg hz
    · exact (h.dat i' y hy).keep hO (fun k hk e => by subst e; exact ha i i' x y k hx hy (Ne.symm hne) hg hk)
  · intro i1 i2 y1 y2 k g1 g2 hne k1 k2
    obtain ⟨z1, a1, b1⟩ := hdb i1 y1 k g1 k1
    obtain ⟨z2, a2, b2⟩ := hdb i2 y2 k g2 k2
    exact ha i1 i2 z1 z2 k a1 a2 hne b1 b2
  · rintro k (hk | hk | ⟨i', y, hy, hk⟩)
    · exact .inl hk
    · exact .inr (.inl hk)
    · obtain ⟨y', a, b⟩ := hdb i' y k hy hk
      exact .inr (.inr ⟨i', y', a, b⟩)
/-- an array's bytes replaced by others, which lie in a block of their own -/
theorem HpV.repl (h : HpV u arrT ty w B p sz V R) (h1 : arrT ≠ ty) (h2 : u ≠ arrT) (ha : Apart R) {i : Nat} {x : Ar × Value} (hx : R[i]? = some x) {q n c : Nat} (hV : V = .slice (some ⟨q, 0, none⟩) n c) {D : Value} {xs : List Int} (hD : Dw u w B D xs)
    (hfr : ∀ k, dB D xs = some k → ¬ Foot p V R k) :
    HpV u arrT ty (w.setCell ⟨q, i * 5 + 4, none⟩ D) B p sz V (R.set i (x.1.with' xs, D)) ∧ Apart (R.set i (x.1.with' xs, D)) ∧
      (∀ k, Foot p V (R.set i (x.1.with' xs, D)) k → Foot p V R k ∨ dB D xs = some k) ∧ Only (fun k => k = q) w (w.setCell ⟨q, i * 5 + 4, none⟩ D) := by
  have hi : i < R.length := (List.getElem?_eq_some_iff.mp hx).1
  have hO : Only (fun k => k = q) w (w.setCell ⟨q, i * 5 + 4, none⟩ D) := only_set _ _ _ _
  have hq : V.ownBlock = some q := by rw [hV]; rfl
  have hset : ∀ (i' : Nat) (y : Ar × Value), (R.set i (x.1.with' xs, D))[i']? = some y → (i' = i ∧ y = (x.1.with' xs, D)) ∨ (i' ≠ i ∧ R[i']? = some y) := by
    intro i' y hy
    by_cases e : i' = i
    · subst e; rw [List.getElem?_set_self hi] at hy; injection hy with hy; exact .inl ⟨rfl, hy.symm⟩
    · rw [List.getElem?_set_ne (by omega)] at hy; exact .inr ⟨e, hy⟩
  have hDq : ∀ k, dB D xs = some k → k ≠ q := by
    intro k hk e; subst e; exact hfr k hk (.inr (.inl hq))
  refine ⟨⟨h.ge, h.blk.only hO (fun e => h.row_ne_p h1 hq e.symm), ?_, ?_⟩, ?_, ?_, hO⟩
  · have hr := h.row
    rw [hV] at hr ⊢
    obtain ⟨_, _, e, _⟩ := own_slice hr
    injection e with _ e2 _; subst e2
    have := (hr.stored (i * 5 + 4) D).1
    rw [flat_set (x := x) hx (x.1.with' xs) D rfl rfl rfl rfl] at this
    rw [List.length_set]; exact this
  · intro i' y hy
    rcases hset i' y hy with ⟨rfl, rfl⟩ | ⟨hne, hy⟩
    · exact hD.keep hO (fun k hk e => hDq k hk e)
    · exact (h.dat i' y hy).keep hO (fun k hk e => by subst e; exact h.dat_ne_row h2 hy hk hq)
  · intro i1 i2 y1 y2 k g1 g2 hne k1 k2
    rcases hset i1 y1 g1 with ⟨rfl, rfl⟩ | ⟨n1, a1⟩
    · rcases hset i2 y2 g2 with ⟨rfl, rfl⟩ | ⟨n2, a2⟩
      · exact hne rfl
      · exact hfr k k1 (.inr (.inr ⟨i2, y2, a2, k2⟩))
    · rcases hset i2 y2 g2 with ⟨rfl, rfl⟩ | ⟨n2, a2⟩
      · exact hfr k k2 (.inr (.inr ⟨i1, y1, a1, k1⟩))
      · exact ha i1 i2 y1 y2 k a1 a2 hne k1 k2
  · rintro k (hk | hk | ⟨i', y, hy, hk⟩)
    · exact .inl (.inl hk)
    · exact .inl (.inr (.inl hk))
    · rcases hset i' y hy with ⟨rfl, rfl⟩ | ⟨_, hy⟩
      · exact .inr hk
      · exact .inl (.inr (.inr ⟨i', y, hy, hk⟩))
/-- an array more: the row is another, or the same -/
theorem HpV.push (h : HpV u arrT ty w B p sz V R) {w1 : World} {V' : Value} (hne : arrT ≠ ty) (hdt : u ≠ ty) (hda : u ≠ arrT) (ha : Apart R) (a : Ar) {D : Value} (hD : Dw u w B D a.data) (hfr : ∀ k, dB D a.data = some k → ¬ Foot p V R k)
    (hrow : w1.ownsRow B arrT 5 V' (R.length + 1) (flat (R ++ [(a, D)]))) (hg : w.grownBy w1 V.ownBlock) (hV' : V'.ownBlock = V.ownBlock ∨ ∃ k, V'.ownBlock = some k ∧ w.heap.size ≤ k)
    (hDd : ∀ k, dB D a.data = some k → k ≠ p) :
    HpV u arrT ty (w1.setCell ⟨p, 1, none⟩ V') B p sz V' (R ++ [(a, D)]) ∧ Apart (R ++ [(a, D)]) ∧
      (∀ k, Foot p V' (R ++ [(a, D)]) k → Foot p V R k ∨ dB D a.data = some k ∨ w.heap.size ≤ k) ∧ Only (fun k => k = p ∨ V.ownBlock = some k) w (w1.setCell ⟨p, 1, none⟩ V') := by
  have hO1 : Only (fun k => V.ownBlock = some k) w w1 := (Only.refl _ w).grown hg (fun k hk => .inl hk)
  have hO : Only (fun k => k = p ∨ V.ownBlock = some k) w (w1.setCell ⟨p, 1, none⟩ V') := (hO1.mono (fun _ _ h => .inr h)).setCell (.inl (.inl rfl)) _
  have hp1 : Blk w1 p ty #[.int .i64 sz, V] := h.blk.only hO1 (fun e => h.row_ne_p hne e rfl)
  have hget : ∀ (i' : Nat) (y : Ar × Value), (R ++ [(a, D)])[i']? = some y → (i' = R.length ∧ y = (a, D)) ∨ R[i']? = some y := by
    intro i' y hy
    rcases Nat.lt_or_ge i' R.length with hlt | hge
    · rw [List.getElem?_append_left hlt] at hy; exact .inr hy
    · rw [List.getElem?_append_right hge] at hy
      have : i' - R.length = 0 := by
        rcases Nat.eq_zero_or_pos (i' - R.length) with h | h
        · exact h
        · rw [List.getElem?_eq_none (by simp; omega)] at hy; cases hy
      rw [this] at hy; simp at hy; exact .inl ⟨by omega, hy.symm⟩
  refine ⟨⟨h.ge, ?_, ?_, ?_⟩, ?_, ?_, hO⟩
  · have := hp1.set 1 V'; simpa using this
  · rw [List.length_append, List.length_singleton]
    exact own_only hrow (only_set _ _ _ _) (fun k hk e => by
      subst e
      rcases hV' with h1 | ⟨k', h1, h2⟩
      · exact h.row_ne_p hne (h1 ▸ hk) rfl
      · rw [h1] at hk; injection hk with hk; have := h.blk.lt; omega)
  · intro i' y hy
    rcases hget i' y hy with ⟨rfl, rfl⟩ | hy
    · exact hD.keep hO (fun k hk e => by
        rcases e with e | e
        · exact hDd k hk e
        · exact hfr k hk (.inr (.inl e)))
    · exact (h.dat i' y hy).keep hO (fun k hk e => by
        rcases e with e | e
        · exact h.dat_ne_p hdt hy hk e
        · exact h.dat_ne_row hda hy hk e)
  · intro i1 i2 y1 y2 k g1 g2 hne k1 k2
    rcases hget i1 y1 g1 with ⟨rfl, rfl⟩ | g1
    · rcases hget i2 y2 g2 with ⟨rfl, rfl⟩ | g2
      · exact hne rfl
      · exact hfr k k1 (.inr (.inr ⟨i2, y2, g2, k2⟩))
    · rcases hget i2 y2 g2 with ⟨rfl, rfl⟩ | g2
      · exact hfr k k2 (.inr (.inr ⟨i1, y1, g1, k1⟩))
      · exact ha i1 i2 y1 y2 k g1 g2 hne k1 k2
  · rintro k (hk | hk | ⟨i', y, hy, hk⟩)
    · exact .inl (.inl hk)
    · rcases hV' with h1 | ⟨k', h1, h2⟩
      · exact .inl (.inr (.inl (h1 ▸ hk)))
      · rw [h1] at hk; injection hk with hk; subst hk; exact .inr (.inr h2)
    · rcases hget i' y hy with ⟨rfl, rfl⟩ | hy
      · exact .inr (.inl hk)
      · exact .inl (.inr (.inr ⟨i', y, hy, hk⟩))
end
end Go.Proofs.Hv
