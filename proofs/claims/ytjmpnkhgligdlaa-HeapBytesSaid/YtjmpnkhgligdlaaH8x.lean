/- HeapBytes: what is told of the heap and of the rows put beside it. -/
import Derived.Test.YtjmpnkhgligdlaaH8h
import Derived.Test.YtjmpnkhgligdlaaHd
namespace Go.Proofs.Ytjmpnkhgligdlaa
open Go.RowKit On Hv Go.Sort
def arr (x : List Int × Value) : Ar := ⟨0, 3, 0, false, x.1⟩
def arrs (R : List (List Int × Value)) : List Ar := buf0 :: buf1 :: R.map arr
theorem arrs_len (R : List (List Int × Value)) : (arrs R).length = R.length + 2 := by simp [arrs]
theorem arrs_get {R : List (List Int × Value)} {i : Nat} {x : List Int × Value} (h : R[i]? = some x) : (arrs R)[i + 2]? = some (arr x) := by simp [arrs, h]
theorem arrs_push (R : List (List Int × Value)) (N : Nat) (D : Value) : arrs (R ++ [(List.replicate N 0, D)]) = arrs R ++ [fresh 0 3 0 false (N : Int)] := by simp [arrs, arr, fresh]
theorem arrs_set {R : List (List Int × Value)} (i : Nat) (x : List Int × Value) (xs : List Int) : arrs (R.set i (xs, x.2)) = (arrs R).set (i + 2) ((arr x).with' xs) := by
  simp only [arrs, List.set_cons_succ, List.map_set]; rfl
theorem arrs_used (R : List (List Int × Value)) : used (arrs R) = sizes (R.map arr) := rfl
theorem sizes_arrs (R : List (List Int × Value)) (h : ∀ x ∈ R, x.1.length ≤ 29) : sizes (R.map arr) ≤ 37 * (R.length : Int) := by
  induction R with
  | nil => simp [sizes]
  | cons x R ih =>
    have h1 := h x (by simp)
    have h2 := ih (fun y hy => h y (by simp [hy]))
    simp only [List.map_cons, sizes, List.length_cons, arr]; omega
theorem arrs_fits (R : List (List Int × Value)) (h : ∀ x ∈ R, x.1.length ≤ 29) (h40 : R.length < 40) (N : Nat) (hN : N ≤ 29) : Fits 4096 (arrs R) 3 0 (N : Int) := by
  have := sizes_arrs R h
  exact ⟨.inl rfl, by omega, by omega, by omega, by omega, by rw [arrs_used]; omega⟩
structure HbS (w0 w : World) (p : Nat) (V : Value) (R : List (List Int × Value)) (F : Nat → Prop) : Prop where
  at_ : AtI w w0.heap.size p 4096 (arrs R) F
  had : HdV 5 29 w w0.heap.size V R
  ap : HdA R
  dis : ∀ k, F k → ¬ HdF V R k
  few : R.length ≤ 40
  short : ∀ x ∈ R, x.1.length ≤ 29
  keep : Below w0.heap.size w0 w
section
variable {w0 w w1 w3 w4 : World} {p : Nat} {V V' : Value} {R : List (List Int × Value)} {F : Nat → Prop}
theorem HbS.below (h : HbS w0 w p V R F) (hb : Below w.heap.size w w1) : HbS w0 w1 p V R F :=
  ⟨h.at_.below hb, h.had.below hb, h.ap, h.dis, h.few, h.short, h.keep.trans (hb.mono h.keep.size)⟩
theorem HbS.pushed (h : HbS w0 w p V R F) {N g : Nat} (ha : AtI w1 w0.heap.size p 4096 (arrs R ++ [fresh 0 3 0 false (N : Int)]) (More F w w1)) (hO : Only F w w1) (hb3 : Below w1.heap.size w1 w3)
    (hg1 : w1.heap.size ≤ g) (hg : Blk w3 g 5 (madeCells #[.int .u8 0] N)) (hgr : w3.grownBy w4 V.ownBlock)
    (hrow : w4.ownsRow w0.heap.size 29 1 V' (R.length + 1) (R.map Prod.snd ++ [.slice (some ⟨g, 0, none⟩) N N])) (hat : V'.ownBlock = V.ownBlock ∨ V'.ownBlock = some w3.heap.size) (hN : N ≤ 29) (h40 : R.length < 40) :
    HbS w0 w4 p V' (R ++ [(List.replicate N 0, .slice (some ⟨g, 0, none⟩) N N)]) (More F w w1) := by
  have hs1 := hO.size
  have hs3 := hb3.size
  have hk0 := h.keep.size
  have h3 : HdV 5 29 w3 w0.heap.size V R := (h.had.keep hO (fun k hk hf => h.dis k hf hk)).below hb3
  have hO4 : Only (fun k => V.ownBlock = some k) w3 w4 := (Only.refl _ w3).grown hgr (fun k hk => .inl hk)
  have hne : V.ownBlock ≠ some g := own_ne h3.row hg (by decide)
  have hD : Dw 5 w4 w0.heap.size (.slice (some ⟨g, 0, none⟩) N N) (List.replicate N 0) := Dw.of_made (blk_grown hgr hg hne) (by omega) (by omega)
  obtain ⟨k1, k2⟩ : HdV 5 29 w4 w0.heap.size V' (R ++ [(List.replicate N 0, .slice (some ⟨g, 0, none⟩) N N)]) ∧ HdA (R ++ [(List.replicate N 0, .slice (some ⟨g, 0, none⟩) N N)]) ∧ (∀ k, HdF V' (R ++ [(List.replicate N 0, .slice (some ⟨g, 0, none⟩) N N)]) k → HdF V R k ∨ w1.heap.size ≤ k) := by
    refine h3.push (by decide) h.ap (N0 := w1.heap.size) (fun k hk => by have := (h.had.lt hk).2; omega) hO4 hrow hD (fun k hk => ?_) (fun k hk => ?_)
    · have := (dB_some hk).2; simp [Value.ownBlock] at this; omega
    · rcases hat with e | e
      · exact .inl (e ▸ hk)
      · rw [e] at hk; injection hk with hk; exact .inr (by omega)
  obtain ⟨k2, k3⟩ := k2
  have ha3 : AtI w3 w0.heap.size p 4096 (arrs R ++ [fresh 0 3 0 false (N : Int)]) (More F w w1) := ha.below hb3
  refine ⟨?_, k1, k2, ?_, ?_, ?_, ?_⟩
  · rw [arrs_push]
    refine ha3.keep hO4 (fun k hk e => ?_)
    have hf : HdF V R k := .inl e
    rcases hk with hk | ⟨hk, _⟩
    · exact h.dis k hk hf
    · have := (h.had.lt hf).2; omega
  · intro k hk hf
    rcases k3 k hf with hf | hf
    · rcases hk with hk | ⟨hk, _⟩
      · exact h.dis k hk hf
      · have := (h.had.lt hf).2; omega
    · rcases hk with hk | ⟨_, hk⟩
      · have := (h.at_.lt hk).2; omega
      · omega
  · simp; omega
  · intro x hx
    rcases List.mem_append.mp hx with hx | hx
    · exact h.short x hx
    · simp at hx; subst hx; simp; omega
  · refine (h.keep.trans (hO.below hk0 (fun k hk => (h.at_.lt hk).1))).trans ((hb3.mono (by omega)).trans (hO4.below (by omega) (fun k hk => (h.had.lt (.inl hk)).1)))
theorem HbS.put (h : HbS w0 w p V R F) {i j g : Nat} {x : List Int × Value} {v : Int} (hx : R[i]? = some x) (ha : AtI w1 w0.heap.size p 4096 ((arrs R).set (i + 2) ((arr x).with' (x.1.set j v))) F) (hO : Only F w w1)
    (hg : dB x.2 x.1 = some g) (hv : 0 ≤ v ∧ v ≤ 255) :
    HbS w0 (w1.setCell ⟨g, j, none⟩ (.int .u8 v)) p V (R.set i (x.1.set j v, x.2)) F := by
  have hf : HdF V R g := .inr ⟨i, x, hx, hg⟩
  have h1 : HdV 5 29 w1 w0.heap.size V R := h.had.keep hO (fun k hk hf => h.dis k hf hk)
  obtain ⟨k1, k2, k3, k4⟩ := h1.put (by decide) h.ap hx hg j hv
  refine ⟨?_, k1, k2, fun k hk hf => h.dis k hk (k3 k hf), by rw [List.length_set]; exact h.few, ?_, ?_⟩
  · rw [arrs_set]
    exact ha.keep k4 (fun k hk e => by subst e; exact h.dis k hk hf)
  · intro y hy
    rcases List.mem_or_eq_of_mem_set hy with hy | rfl
    · exact h.short y hy
    · rw [List.length_set]; exact h.short x (List.mem_of_getElem? hx)
  · refine (h.keep.trans (hO.below h.keep.size (fun k hk => (h.at_.lt hk).1))).trans (k4.below (by have := h.keep.size; have := hO.size; omega) (fun k hk => by subst hk; exact (h.had.lt hf).1))
end
end Go.Proofs.Ytjmpnkhgligdlaa
