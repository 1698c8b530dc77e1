/- The chip's step of a known instruction; what a store above the code leaves alone: plain. -/
import Derived.Test.YtpihjhfaeloapaaCy
namespace Go.Proofs.Ytpihjhfaeloapaa
open Go.RowKit On Th
theorem getB_congr {f f' : Nat → Int} {a n : Nat} (h : ∀ j, a ≤ j → j < a + n → f' j = f j) : getB f' a n = getB f a n := by
  induction n with
  | zero => rfl
  | succ n ih =>
    rw [getB_succ, getB_succ, ih (fun j h1 h2 => h j h1 (by omega)), h (a + n) (by omega) (by omega)]
theorem setB_get {f : Nat → Int} {a : Nat} {n : Int} (hn : U n) : getB (setB f a 4 n) a 4 = n := by
  have h : ∀ j, j < 4 → setB f a 4 n (a + j) = byteAt n j := fun j hj => by unfold setB; rw [if_pos (by omega)]; congr 1; omega
  unfold U at hn
  unfold getB getB getB getB getB
  rw [h 0 (by omega), h 1 (by omega), h 2 (by omega), h 3 (by omega)]
  unfold byteAt; simp; omega
theorem setB_low {f : Nat → Int} {a k j : Nat} {v : Int} (h : j < a ∨ a + k ≤ j) : setB f a k v j = f j := by unfold setB; rw [if_neg (by omega)]
/-- the code is the same -/
def Low (f f' : Nat → Int) : Prop := ∀ j : Nat, j < 131072 → f' j = f j
theorem Low.refl (f : Nat → Int) : Low f f := fun _ _ => rfl
theorem Low.trans {f g h : Nat → Int} (h1 : Low f g) (h2 : Low g h) : Low f h := fun j hj => (h2 j hj).trans (h1 j hj)
theorem Low.half {f f' : Nat → Int} (h : Low f f') (a : Int) : halfS f' a = halfS f a := by
  unfold halfS
  split
  · rw [getB_congr (fun j h1 h2 => h j (by omega))]
  · rfl
theorem Low.fetch {f f' : Nat → Int} (h : Low f f') (a : Int) : fetchS f' a = fetchS f a := by
  unfold fetchS hsTo hsTo hsTo
  rw [h.half, h.half]
theorem Low.setWord (f : Nat → Int) (a v : Int) : Low f (setWordS f a v).1 := fun j hj => by
  unfold setWordS
  split
  · exact setB_low (by omega)
  · rfl
theorem setWordS_yes {f : Nat → Int} {a v : Int} (h0 : 131072 ≤ a) (h1 : a % 4 = 0) (h2 : a < 262144) : setWordS f a v = (setB f a.toNat 4 v, true) := by unfold setWordS; rw [if_pos ⟨h0, h1, h2⟩]
theorem wordS_yes {f : Nat → Int} {a : Int} (h0 : 0 ≤ a) (h1 : a % 4 = 0) (h2 : a < 262144) : wordS f a = (getB f a.toNat 4, true) := by unfold wordS; rw [if_pos ⟨h0, h1, h2⟩]
theorem byteS_yes {f : Nat → Int} {a : Int} (h0 : 0 ≤ a) (h2 : a < 262144) : byteS f a = (f a.toNat, true) := by unfold byteS; rw [if_pos ⟨h0, h2⟩]
/-- a step of an instruction that does not fail -/
theorem stepS_ok {mp : Value} {c : Ch} {f : Nat → Int} {i : Ins} {n : Int} {s' : Sp} {f' : Nat → Int} (h0 : c.st = 0) (hf : fetchS f (c.R.getD 15 0) = (i, n, 0)) (hx : (c.sp mp i).exec f = (s', f')) (hfl : s'.fault = false) :
    stepS mp c f = ({ s'.c with cyc := wrap64 (s'.c.cyc + s'.cost) }, f', [⟨4, c.R.getD 15 0, s'.touch, s'.cost⟩]) := by
  unfold stepS
  rw [if_pos h0, hf]
  dsimp only
  rw [if_pos rfl, hx]
  dsimp only
  rw [if_neg (by rw [hfl]; simp)]
/-- a step of an instruction that fails -/
theorem stepS_bad {mp : Value} {c : Ch} {f : Nat → Int} {i : Ins} {n : Int} {s' : Sp} {f' : Nat → Int} (h0 : c.st = 0) (hf : fetchS f (c.R.getD 15 0) = (i, n, 0)) (hx : (c.sp mp i).exec f = (s', f')) (hfl : s'.fault = true) :
    stepS mp c f = ({ c with st := 2 }, f', []) := by
  unfold stepS
  rw [if_pos h0, hf]
  dsimp only
  rw [if_pos rfl, hx]
  dsimp only
  rw [if_pos hfl]
theorem runUp_succ (mp : Value) (c : Ch) (f : Nat → Int) (k : Nat) {c' : Ch} {f' : Nat → Int} {l l' : List Ev} {c1 : Ch} {f1 : Nat → Int} (h : runUp mp c f k = (c1, f1, l)) (hs : stepS mp c1 f1 = (c', f', l')) : runUp mp c f (k + 1) = (c', f', l ++ l') := by
  show ((stepS mp (runUp mp c f k).1 (runUp mp c f k).2.1).1, (stepS mp (runUp mp c f k).1 (runUp mp c f k).2.1).2.1, (runUp mp c f k).2.2 ++ (stepS mp (runUp mp c f k).1 (runUp mp c f k).2.1).2.2) = _
  rw [h]
  dsimp only
  rw [hs]
theorem runUp_stop (mp : Value) (c : Ch) (f : Nat → Int) (k n : Nat) (hn : k ≤ n) {l : List Ev} {c1 : Ch} {f1 : Nat → Int} (h : runUp mp c f k = (c1, f1, l)) (hs : c1.st ≠ 0) : runUp mp c f n = (c1, f1, l) := by
  have := runUp_halt (mp := mp) (c := c) (f := f) (k := k) (by rw [h]; exact hs) (n - k)
  rw [Nat.add_sub_cancel' hn] at this
  rw [this, h]
end Go.Proofs.Ytpihjhfaeloapaa
