/- MERGED by mergeq.py: XCp XQs XQr XQt XQl. -/
import Derived.Test.YtpihjhfaeloapaaCy
namespace Go.Proofs.Ytpihjhfaeloapaa
open Go.RowKit On Th
theorem getB_congr {f f' : Nat → Int} {a n : Nat} (h : ∀ j, a ≤ j → j < a + n → f' j = f j) : getB f' a n = getB f a n := by
  induction n with
  | zero => rfl
  | succ n ih =>
    rw [getB_succ, getB_succ, ih (fun j h1 h2 => h j h1 (by omega)), h (a + n) (by omega) (by omega)]
theorem setB_get {f : Nat → Int} {a : Nat} {n : Int} (hn : U n) : getB (setB f a 4 n) a 4 = n := by
  have h : ∀ j, j < 4 → setB f a 4 n (a + j) = byteAt n j := fun j hj => by unfold setB; rw [if_pos (by omega)]; congr 1; omega
  unfold U at hn
  unfold getB getB getB getB getB
  rw [h 0 (by omega), h 1 (by omega), h 2 (by omega), h 3 (by omega)]
  unfold byteAt; simp; omega
theorem setB_low {f : Nat → Int} {a k j : Nat} {v : Int} (h : j < a ∨ a + k ≤ j) : setB f a k v j = f j := by unfold setB; rw [if_neg (by omega)]
/-- the code is the same -/
def Low (f f' : Nat → Int) : Prop := ∀ j : Nat, j < 131072 → f' j = f j
theorem Low.refl (f : Nat → Int) : Low f f := fun _ _ => rfl
theorem Low.trans {f g h : Nat → Int} (h1 : Low f g) (h2 : Low g h) : Low f h := fun j hj => (h2 j hj).trans (h1 j hj)
theorem Low.half {f f' : Nat → Int} (h : Low f f') (a : Int) : halfS f' a = halfS f a := by
  unfold halfS
  split
  · rw [getB_congr (fun j h1 h2 => h j (by omega))]
  · rfl
theorem Low.fetch {f f' : Nat → Int} (h : Low f f') (a : Int) : fetchS f' a = fetchS f a := by
  unfold fetchS hsTo hsTo hsTo
  rw [h.half, h.half]
theorem Low.setWord (f : Nat → Int) (a v : Int) : Low f (setWordS f a v).1 := fun j hj => by
  unfold setWordS
  split
  · exact setB_low (by omega)
  · rfl
theorem setWordS_yes {f : Nat → Int} {a v : Int} (h0 : 131072 ≤ a) (h1 : a % 4 = 0) (h2 : a < 262144) : setWordS f a v = (setB f a.toNat 4 v, true) := by unfold setWordS; rw [if_pos ⟨h0, h1, h2⟩]
theorem wordS_yes {f : Nat → Int} {a : Int} (h0 : 0 ≤ a) (h1 : a % 4 = 0) (h2 : a < 262144) : wordS f a = (getB f a.toNat 4, true) := by unfold wordS; rw [if_pos ⟨h0, h1, h2⟩]
theorem byteS_yes {f : Nat → Int} {a : Int} (h0 : 0 ≤ a) (h2 : a < 262144) : byteS f a = (f a.toNat, true) := by unfold byteS; rw [if_pos ⟨h0, h2⟩]
/-- a step of an instruction that does not fail -/
theorem stepS_ok {mp : Value} {c : Ch} {f : Nat → Int} {i : Ins} {n : Int} {s' : Sp} {f' : Nat → Int} (h0 : c.st = 0) (hf : fetchS f (c.R.getD 15 0) = (i, n, 0)) (hx : (c.sp mp i).exec f = (s', f')) (hfl : s'.fault = false) :
    stepS mp c f = ({ s'.c with cyc := wrap64 (s'.c.cyc + s'.cost) }, f', [⟨4, c.R.getD 15 0, s'.touch, s'.cost⟩]) := by
  unfold stepS
  rw [if_pos h0, hf]
  dsimp only
  rw [if_pos rfl, hx]
  dsimp only
  rw [if_neg (by rw [hfl]; simp)]
/-- a step of an instruction that fails -/
theorem stepS_bad {mp : Value} {c : Ch} {f : Nat → Int} {i : Ins} {n : Int} {s' : Sp} {f' : Nat → Int} (h0 : c.st = 0) (hf : fetchS f (c.R.getD 15 0) = (i, n, 0)) (hx : (c.sp mp i).exec f = (s', f')) (hfl : s'.fault = true) :
    stepS mp c f = ({ c with st := 2 }, f', []) := by
  unfold stepS
  rw [if_pos h0, hf]
  dsimp only
  rw [if_pos rfl, hx]
  dsimp only
  rw [if_pos hfl]
theorem runUp_succ (mp : Value) (c : Ch) (f : Nat → Int) (k : Nat) {c' : Ch} {f' : Nat → Int} {l l' : List Ev} {c1 : Ch} {f1 : Nat → Int} (h : runUp mp c f k = (c1, f1, l)) (hs : stepS mp c1 f1 = (c', f', l')) : runUp mp c f (k + 1) = (c', f', l ++ l') := by
  show ((stepS mp (runUp mp c f k).1 (runUp mp c f k).2.1).1, (stepS mp (runUp mp c f k).1 (runUp mp c f k).2.1).2.1, (runUp mp c f k).2.2 ++ (stepS mp (runUp mp c f k).1 (runUp mp c f k).2.1).2.2) = _
  rw [h]
  dsimp only
  rw [hs]
theorem runUp_stop (mp : Value) (c : Ch) (f : Nat → Int) (k n : Nat) (hn : k ≤ n) {l : List Ev} {c1 : Ch} {f1 : Nat → Int} (h : runUp mp c f k = (c1, f1, l)) (hs : c1.st ≠ 0) : runUp mp c f n = (c1, f1, l) := by
  have := runUp_halt (mp := mp) (c := c) (f := f) (k := k) (by rw [h]; exact hs) (n - k)
  rw [Nat.add_sub_cancel' hn] at this
  rw [this, h]
end Go.Proofs.Ytpihjhfaeloapaa
namespace Go.Proofs.Ytpihjhfaeloapaa
open Go.RowKit On Th
theorem exec_push (mp : Value) (c : Ch) (f : Nat → Int) (imm : Int) : (c.sp mp ⟨39, 0, 0, 0, imm, 0⟩).exec f = ((c.sp mp ⟨39, 0, 0, 0, imm, 0⟩).push, pushF (c.sp mp ⟨39, 0, 0, 0, imm, 0⟩) f) := rfl
theorem exec_pop (mp : Value) (c : Ch) (f : Nat → Int) (imm : Int) : (c.sp mp ⟨40, 0, 0, 0, imm, 0⟩).exec f = ((c.sp mp ⟨40, 0, 0, 0, imm, 0⟩).pop f, f) := rfl
theorem storeUp_low (f : Nat → Int) (a : Int) (R l : List Int) (n : Nat) : Low f (storeUp f a R l n) := by
  induction n with
  | zero => exact Low.refl f
  | succ n ih => exact ih.trans (Low.setWord _ _ _)
theorem okSW_iff {a : Int} : okSW a = true ↔ 131072 ≤ a ∧ a % 4 = 0 ∧ a < 262144 := by unfold okSW; rw [decide_eq_true_eq]
theorem storeUp_word {f : Nat → Int} {a : Int} {R l : List Int} {n : Nat} (ok : ∀ k : Nat, k < n → okSW (a + 4 * k) = true) (hR : ∀ k, U (R.getD (l.getD k 0).toNat 0)) (k : Nat) (hk : k < n) :
    wordS (storeUp f a R l n) (a + 4 * k) = (R.getD (l.getD k 0).toNat 0, true) := by
  have h0 := okSW_iff.mp (ok k hk)
  rw [wordS_yes (by omega) h0.2.1 h0.2.2]
  congr 1
  induction n with
  | zero => omega
  | succ n ih =>
    have h1 := okSW_iff.mp (ok n (by omega))
    unfold storeUp
    rw [setWordS_yes h1.1 h1.2.1 h1.2.2]
    dsimp only
    by_cases e : k = n
    · subst e; exact setB_get (hR k)
    · rw [getB_congr (fun j _ h3 => setB_low (.inl (by omega)))]
      exact ih (fun j hj => ok j (by omega)) (by omega)
theorem badUp_no {a : Int} {n : Nat} (ok : ∀ k : Nat, k < n → okSW (a + 4 * k) = true) : badUp a n = false := by
  induction n with
  | zero => rfl
  | succ n ih => unfold badUp; rw [ih (fun k hk => ok k (by omega)), ok n (by omega)]; rfl
/-- the registers that are loaded -/
def setUp (R l : List Int) (v : Nat → Int) : Nat → List Int
  | 0 => R
  | k + 1 => (setUp R l v k).set (l.getD k 0).toNat (v k)
theorem popUp_regs {f : Nat → Int} {a : Int} {l : List Int} {s : Sp} {v : Nat → Int} {n : Nat} (hw : ∀ k : Nat, k < n → wordS f (a + 4 * k) = (v k, true)) (hl : ∀ k : Nat, k < n → l.getD k 0 ≠ 15) :
    popUp f a l s n = { s with c := { s.c with R := setUp s.c.R l v n } } := by
  induction n with
  | zero => rfl
  | succ n ih =>
    unfold popUp
    rw [ih (fun k hk => hw k (by omega)) (fun k hk => hl k (by omega))]
    unfold popStep
    rw [if_neg (hl n (by omega)), hw n (by omega)]
    unfold Sp.setR
    simp only [setUp, Bool.not_true, Bool.or_false]
theorem setUp_len (R l : List Int) (v : Nat → Int) (n : Nat) : (setUp R l v n).length = R.length := by
  induction n with
  | zero => rfl
  | succ n ih => unfold setUp; rw [List.length_set, ih]
/-- a register that is not named stays -/
theorem setUp_out {R l : List Int} {v : Nat → Int} {n r : Nat} (h : ∀ k, k < n → (l.getD k 0).toNat ≠ r) : (setUp R l v n).getD r 0 = R.getD r 0 := by
  induction n with
  | zero => rfl
  | succ n ih =>
    unfold setUp
    rw [List.getD_eq_getElem?_getD, List.getElem?_set_ne (h n (by omega)), ← List.getD_eq_getElem?_getD]
    exact ih (fun k hk => h k (by omega))
/-- one that is named is what was loaded, all being unlike -/
theorem setUp_in {R l : List Int} {v : Nat → Int} {n r k : Nat} (hk : k < n) (he : (l.getD k 0).toNat = r) (hr : r < R.length) (hu : ∀ j, j < n → j ≠ k → (l.getD j 0).toNat ≠ r) : (setUp R l v n).getD r 0 = v k := by
  induction n with
  | zero => omega
  | succ n ih =>
    unfold setUp
    by_cases e : k = n
    · subst e
      rw [he, List.getD_eq_getElem?_getD, List.getElem?_set_self (by rw [setUp_len]; exact hr)]
      rfl
    · rw [List.getD_eq_getElem?_getD, List.getElem?_set_ne (hu n (by omega) (fun h => e h.symm)), ← List.getD_eq_getElem?_getD]
      exact ih (by omega) (fun j hj => hu j (by omega))
end Go.Proofs.Ytpihjhfaeloapaa
namespace Go.Proofs.Ytpihjhfaeloapaa
open Go.RowKit On Th
def SK (l : Int) : List Ins := [⟨39, 0, 0, 0, l, 0⟩, ⟨44, 0, 0, 0, 1, 0⟩, ⟨40, 0, 0, 0, l, 0⟩, ⟨44, 0, 0, 0, 2, 0⟩]
def SKF (l : Int) : Nat → Int := loadB (fun _ => 0) 0 (flatE (SK l)) (flatE (SK l)).length
theorem SK_right (l : Int) (h0 : 1 ≤ l) (h1 : l ≤ 255) : ∀ i ∈ SK l, rightS i = true := by
  intro i hi
  simp [SK] at hi
  rcases hi with rfl | rfl | rfl | rfl
  · simp [rightS, rowOf, rowOk, rpS, im]; omega
  · decide
  · simp [rightS, rowOf, rowOk, rpS, im]; omega
  · decide
theorem SK_len (l : Int) (h0 : 1 ≤ l) (h1 : l ≤ 255) : canLoad 0 (flatE (SK l)).length := by
  have h := (flatE_range (SK_right l h0 h1)).2
  have : (SK l).length = 4 := rfl
  unfold canLoad
  omega
theorem sk_all : ((List.range 255).all fun n => decide (fetchS (SKF ((n : Int) + 1)) 0 = (⟨39, 0, 0, 0, (n : Int) + 1, 0⟩, 1, 0)) && decide (fetchS (SKF ((n : Int) + 1)) 2 = (⟨44, 0, 0, 0, 1, 0⟩, 1, 0)) && decide (fetchS (SKF ((n : Int) + 1)) 4 = (⟨40, 0, 0, 0, (n : Int) + 1, 0⟩, 1, 0)) && decide (fetchS (SKF ((n : Int) + 1)) 6 = (⟨44, 0, 0, 0, 2, 0⟩, 1, 0))) = true := by decide +kernel
theorem sk_fetch (l : Int) (h0 : 1 ≤ l) (h1 : l ≤ 255) : fetchS (SKF l) 0 = (⟨39, 0, 0, 0, l, 0⟩, 1, 0) ∧ fetchS (SKF l) 2 = (⟨44, 0, 0, 0, 1, 0⟩, 1, 0) ∧ fetchS (SKF l) 4 = (⟨40, 0, 0, 0, l, 0⟩, 1, 0) ∧ fetchS (SKF l) 6 = (⟨44, 0, 0, 0, 2, 0⟩, 1, 0) := by
  have h := List.all_eq_true.mp sk_all (l - 1).toNat (List.mem_range.mpr (by omega))
  have e : (((l - 1).toNat : Nat) : Int) + 1 = l := by omega
  rw [e] at h
  simpa [and_assoc] using h
/-- bits -/
theorem bitsTo_iff (imm : Int) (k : Nat) (x : Int) : x ∈ bitsTo imm k ↔ ∃ j : Nat, j < k ∧ x = j ∧ imm / 2 ^ j % 2 = 1 := by
  induction k with
  | zero => simp [bitsTo]
  | succ k ih =>
    unfold bitsTo
    rw [List.mem_append, ih]
    constructor
    · rintro (⟨j, h1, h2, h3⟩ | h)
      · exact ⟨j, by omega, h2, h3⟩
      · split at h
        · rename_i hb
          simp at h
          exact ⟨k, by omega, h, hb⟩
        · simp at h
    · rintro ⟨j, h1, rfl, h3⟩
      by_cases e : j = k
      · subst e; right; rw [if_pos h3]; simp
      · left; exact ⟨j, by omega, rfl, h3⟩
theorem bitsTo_sorted (imm : Int) (k : Nat) : (bitsTo imm k).Pairwise (· < ·) := by
  induction k with
  | zero => simp [bitsTo]
  | succ k ih =>
    unfold bitsTo
    rw [List.pairwise_append]
    refine ⟨ih, by split <;> simp, fun a ha b hb => ?_⟩
    obtain ⟨j, h1, rfl, _⟩ := (bitsTo_iff imm k a).mp ha
    split at hb
    · simp at hb; omega
    · simp at hb
theorem listS_small (l last : Int) (h0 : 1 ≤ l) (h1 : l ≤ 255) : listS l last = bitsTo l 8 := by
  unfold listS
  rw [if_neg (by omega), List.append_nil]
end Go.Proofs.Ytpihjhfaeloapaa
namespace Go.Proofs.Ytpihjhfaeloapaa
open Go.RowKit On Th
theorem getD_set_eq {R : List Int} {k : Nat} (x : Int) (h : k < R.length) : (R.set k x).getD k 0 = x := by
  rw [List.getD_eq_getElem?_getD, List.getElem?_set_self h]; rfl
theorem getD_set_ne {R : List Int} {k j : Nat} (x : Int) (h : k ≠ j) : (R.set k x).getD j 0 = R.getD j 0 := by
  rw [List.getD_eq_getElem?_getD, List.getElem?_set_ne h, ← List.getD_eq_getElem?_getD]
theorem sp_two (mp : Value) (R : List Int) (nf zf cf vf : Bool) (st num cyc p : Int) (i : Ins) (hi : i.op ≠ 43) (h15 : R.getD 15 0 = p) :
    (⟨R, nf, zf, cf, vf, st, num, cyc⟩ : Ch).sp mp i = ⟨⟨R.set 15 ((p + 2) % 4294967296), nf, zf, cf, vf, st, num, cyc⟩, mp, i, p, -1, 1, false⟩ := by
  unfold Ch.sp
  dsimp only
  rw [if_neg hi, h15]
theorem svc_step (mp : Value) (R : List Int) (nf zf cf vf : Bool) (num cyc p x : Int) (f : Nat → Int) (h15 : R.getD 15 0 = p) (hf : fetchS f p = (⟨44, 0, 0, 0, x, 0⟩, 1, 0)) :
    stepS mp ⟨R, nf, zf, cf, vf, 0, num, cyc⟩ f = (⟨R.set 15 ((p + 2) % 4294967296), nf, zf, cf, vf, 1, x, wrap64 (cyc + 1)⟩, f, [⟨4, p, -1, 1⟩]) := by
  have hs := sp_two mp R nf zf cf vf 0 num cyc p ⟨44, 0, 0, 0, x, 0⟩ (by show (44 : Int) ≠ 43; decide) h15
  have hx : ((⟨R, nf, zf, cf, vf, 0, num, cyc⟩ : Ch).sp mp ⟨44, 0, 0, 0, x, 0⟩).exec f = (⟨⟨R.set 15 ((p + 2) % 4294967296), nf, zf, cf, vf, 1, x, cyc⟩, mp, ⟨44, 0, 0, 0, x, 0⟩, p, -1, 1, false⟩, f) := by
    rw [hs]; rfl
  have := stepS_ok (mp := mp) (c := ⟨R, nf, zf, cf, vf, 0, num, cyc⟩) rfl (by show fetchS f (R.getD 15 0) = _; rw [h15]; exact hf) hx rfl
  rw [this]
  dsimp only
  rw [h15]
theorem sk_run1 (mp : Value) (l base : Int) (R : List Int) (h0 : 1 ≤ l) (h1 : l ≤ 255) (hlen : R.length = 16) (h15 : R.getD 15 0 = 0) (h13 : R.getD 13 0 = base) (hb0 : 131200 ≤ base) (hb1 : base ≤ 262144) (hb2 : base % 4 = 0) :
    ∃ cyc evs, runUp mp ⟨R, false, false, false, false, 0, 0, 0⟩ (SKF l) 9 =
      (⟨((R.set 15 2).set 13 (base - 4 * (bitsTo l 8).length)).set 15 4, false, false, false, false, 1, 1, cyc⟩,
       storeUp (SKF l) (base - 4 * (bitsTo l 8).length) ((R.set 15 2).set 13 (base - 4 * (bitsTo l 8).length)) (bitsTo l 8) (bitsTo l 8).length, evs) := by
  have hn : (bitsTo l 8).length ≤ 8 := bitsTo_len l 8
  obtain ⟨hf0, hf2, _, _⟩ := sk_fetch l h0 h1
  have hls := listS_small l 14 h0 h1
  generalize hL : bitsTo l 8 = L at *
  obtain ⟨b, hb⟩ : ∃ b, base - 4 * (L.length : Int) = b := ⟨_, rfl⟩
  rw [hb]
  have hs := sp_two mp R false false false false 0 0 0 0 ⟨39, 0, 0, 0, l, 0⟩ (by show (39 : Int) ≠ 43; decide) h15
  have hx := exec_push mp ⟨R, false, false, false, false, 0, 0, 0⟩ (SKF l) l
  rw [hs] at hx
  have ok : ∀ k : Nat, k < L.length → okSW (b + 4 * k) = true := fun k hk => by rw [okSW_iff]; omega
  have hbad := badUp_no ok
  have hpb : pushBase ⟨⟨R.set 15 ((0 + 2) % 4294967296), false, false, false, false, 0, 0, 0⟩, mp, ⟨39, 0, 0, 0, l, 0⟩, 0, -1, 1, false⟩ = b := by
    unfold pushBase
    dsimp only
    rw [hls, getD_set_ne _ (by decide), h13]
    omega
  have hp : (⟨⟨R.set 15 ((0 + 2) % 4294967296), false, false, false, false, 0, 0, 0⟩, mp, ⟨39, 0, 0, 0, l, 0⟩, 0, -1, 1, false⟩ : Sp).push = ⟨⟨(R.set 15 2).set 13 b, false, false, false, false, 0, 0, 0⟩, mp, ⟨39, 0, 0, 0, l, 0⟩, 0, b, 1 + L.length, false⟩ := by
    unfold Sp.push Sp.push0
    rw [hpb]
    unfold Sp.setR
    dsimp only
    rw [hls, hbad]
    rfl
  have hF : pushF ⟨⟨R.set 15 ((0 + 2) % 4294967296), false, false, false, false, 0, 0, 0⟩, mp, ⟨39, 0, 0, 0, l, 0⟩, 0, -1, 1, false⟩ (SKF l) = storeUp (SKF l) b ((R.set 15 2).set 13 b) L L.length := by
    unfold pushF Sp.push0
    rw [hpb]
    unfold Sp.setR
    dsimp only
    rw [hls, hbad, if_neg (by decide)]
    rfl
  rw [hp, hF, ← hs] at hx
  have e1 := stepS_ok (mp := mp) (c := ⟨R, false, false, false, false, 0, 0, 0⟩) rfl (by show fetchS (SKF l) (R.getD 15 0) = _; rw [h15]; exact hf0) hx rfl
  have g15 : ((R.set 15 2).set 13 b).getD 15 0 = 2 := by rw [getD_set_ne _ (by decide), getD_set_eq _ (by omega)]
  have hf2' : fetchS (storeUp (SKF l) b ((R.set 15 2).set 13 b) L L.length) 2 = (⟨44, 0, 0, 0, 1, 0⟩, 1, 0) := ((storeUp_low (SKF l) b _ L L.length).fetch 2).trans hf2
  have e2 := svc_step mp ((R.set 15 2).set 13 b) false false false false 0 (wrap64 (0 + (1 + L.length))) 2 1 _ g15 hf2'
  have r1 := runUp_succ mp ⟨R, false, false, false, false, 0, 0, 0⟩ (SKF l) 0 rfl e1
  have r2 := runUp_succ mp ⟨R, false, false, false, false, 0, 0, 0⟩ (SKF l) 1 r1 e2
  exact ⟨_, _, runUp_stop mp _ _ 2 9 (by omega) r2 (by show (1 : Int) ≠ 0; decide)⟩
theorem sk_run2 (mp : Value) (l base num cyc : Int) (R : List Int) (F : Nat → Int) (v : Nat → Int) (h0 : 1 ≤ l) (h1 : l ≤ 255) (hlen : R.length = 16) (h15 : R.getD 15 0 = 4) (h13 : R.getD 13 0 = base - 4 * (bitsTo l 8).length) (hb0 : 131200 ≤ base) (hb1 : base ≤ 262144)
    (hlow : Low (SKF l) F) (hw : ∀ k : Nat, k < (bitsTo l 8).length → wordS F (base - 4 * (bitsTo l 8).length + 4 * k) = (v k, true)) :
    ∃ cy evs, runUp mp ⟨R, false, false, false, false, 0, num, cyc⟩ F 9 =
      (⟨((setUp (R.set 15 6) (bitsTo l 8) v (bitsTo l 8).length).set 13 base).set 15 8, false, false, false, false, 1, 2, cy⟩, F, evs) := by
  have hn : (bitsTo l 8).length ≤ 8 := bitsTo_len l 8
  obtain ⟨_, _, hf4, hf6⟩ := sk_fetch l h0 h1
  have hls := listS_small l 15 h0 h1
  have hmem : ∀ k : Nat, k < (bitsTo l 8).length → 0 ≤ (bitsTo l 8).getD k 0 ∧ (bitsTo l 8).getD k 0 < 8 := fun k hk => by
    have := bitsTo_mem l 8 ((bitsTo l 8).getD k 0) (by rw [List.getD_eq_getElem?_getD, List.getElem?_eq_getElem hk]; exact List.getElem_mem hk)
    exact this
  generalize hL : bitsTo l 8 = L at *
  obtain ⟨b, hb⟩ : ∃ b, base - 4 * (L.length : Int) = b := ⟨_, rfl⟩
  rw [hb] at h13 hw
  have hs := sp_two mp R false false false false 0 num cyc 4 ⟨40, 0, 0, 0, l, 0⟩ (by show (40 : Int) ≠ 43; decide) h15
  have hx := exec_pop mp ⟨R, false, false, false, false, 0, num, cyc⟩ F l
  rw [hs] at hx
  have e6 : ((4 : Int) + 2) % 4294967296 = 6 := by decide
  rw [e6] at hx hs
  have g13 : (R.set 15 6).getD 13 0 = b := by rw [getD_set_ne _ (by decide), h13]
  have hE : (⟨⟨R.set 15 6, false, false, false, false, 0, num, cyc⟩, mp, ⟨40, 0, 0, 0, l, 0⟩, 4, -1, 1, false⟩ : Sp).popE F = ⟨⟨setUp (R.set 15 6) L v L.length, false, false, false, false, 0, num, cyc⟩, mp, ⟨40, 0, 0, 0, l, 0⟩, 4, b, 1 + L.length, false⟩ := by
    unfold Sp.popE Sp.pop0
    dsimp only
    rw [hls, g13, popUp_regs hw (fun k hk => by have := hmem k hk; omega)]
  have h13' : (setUp (R.set 15 6) L v L.length).getD 13 0 = b := by
    rw [setUp_out (fun k hk => by have := hmem k hk; omega), g13]
  have hp : (⟨⟨R.set 15 6, false, false, false, false, 0, num, cyc⟩, mp, ⟨40, 0, 0, 0, l, 0⟩, 4, -1, 1, false⟩ : Sp).pop F = ⟨⟨(setUp (R.set 15 6) L v L.length).set 13 base, false, false, false, false, 0, num, cyc⟩, mp, ⟨40, 0, 0, 0, l, 0⟩, 4, b, 1 + L.length, false⟩ := by
    unfold Sp.pop
    rw [hE]
    unfold Sp.setR
    dsimp only
    rw [hls, h13', show (b + 4 * (L.length : Int)) % 4294967296 = base by omega]
  rw [hp, ← hs] at hx
  have e1 := stepS_ok (mp := mp) (c := ⟨R, false, false, false, false, 0, num, cyc⟩) rfl (by show fetchS F (R.getD 15 0) = _; rw [h15]; exact (hlow.fetch 4).trans hf4) hx rfl
  have g15 : ((setUp (R.set 15 6) L v L.length).set 13 base).getD 15 0 = 6 := by
    rw [getD_set_ne _ (by decide), setUp_out (fun k hk => by have := hmem k hk; omega), getD_set_eq _ (by omega)]
  have e2 := svc_step mp ((setUp (R.set 15 6) L v L.length).set 13 base) false false false false num (wrap64 (cyc + (1 + L.length))) 6 2 F g15 ((hlow.fetch 6).trans hf6)
  have e8 : ((6 : Int) + 2) % 4294967296 = 8 := by decide
  rw [e8] at e2
  have r1 := runUp_succ mp ⟨R, false, false, false, false, 0, num, cyc⟩ F 0 rfl e1
  have r2 := runUp_succ mp ⟨R, false, false, false, false, 0, num, cyc⟩ F 1 r1 e2
  exact ⟨_, _, runUp_stop mp _ _ 2 9 (by omega) r2 (by show (1 : Int) ≠ 0; decide)⟩
end Go.Proofs.Ytpihjhfaeloapaa
namespace Go.Proofs.Ytpihjhfaeloapaa
open Go.RowKit On Th
structure Keeps (s s' : Sp) : Prop where
  fault : s'.fault = s.fault
  touch : s'.touch = s.touch
  cost : s'.cost = s.cost
  st : s'.c.st = s.c.st
  cyc : s'.c.cyc = s.c.cyc
  pc : s'.c.R.getD 15 0 = s.c.R.getD 15 0
theorem Keeps.refl (s : Sp) : Keeps s s := ⟨rfl, rfl, rfl, rfl, rfl, rfl⟩
theorem Keeps.sign (s : Sp) (n : Int) : Keeps s (s.sign n) := ⟨rfl, rfl, rfl, rfl, rfl, rfl⟩
theorem Keeps.sum (s : Sp) (a b : Int) (k : Bool) : Keeps s (s.sum a b k) := ⟨rfl, rfl, rfl, rfl, rfl, rfl⟩
theorem Keeps.trans {s t u : Sp} (h : Keeps s t) (g : Keeps t u) : Keeps s u := ⟨g.fault.trans h.fault, g.touch.trans h.touch, g.cost.trans h.cost, g.st.trans h.st, g.cyc.trans h.cyc, g.pc.trans h.pc⟩
theorem Keeps.setR (s : Sp) {k : Nat} (hk : k ≠ 15) (n : Int) : Keeps s (s.setR k n) := ⟨rfl, rfl, rfl, rfl, rfl, getD_set_ne n hk⟩
theorem keeps_shifted (s : Sp) (op a n : Int) {d : Nat} (hd : d ≠ 15) : Keeps s (s.shifted op a n d) := by
  unfold Sp.shifted
  by_cases h : n = 0
  · rw [if_pos h]; exact (Keeps.sign _ _).trans (Keeps.setR _ hd _)
  · rw [if_neg h]; exact ⟨rfl, rfl, rfl, rfl, rfl, getD_set_ne _ hd⟩
theorem opt_ite {K : Sp → Prop} {p : Prop} [Decidable p] {a b : Option Sp} (ha : ∀ x, a = some x → K x) (hb : ∀ x, b = some x → K x) : ∀ x, (if p then a else b) = some x → K x := fun x h => by
  by_cases hp : p
  · rw [if_pos hp] at h; exact ha x h
  · rw [if_neg hp] at h; exact hb x h
theorem opt_some {K : Sp → Prop} {a : Sp} (h : K a) : ∀ x, some a = some x → K x := fun x e => by injection e with e; rw [← e]; exact h
theorem keeps_sums {s : Sp} (hd : s.i.d.toNat ≠ 15) : ∀ s', s.sums = some s' → Keeps s s' := by
  unfold Sp.sums
  repeat (refine opt_ite (opt_some (by first | exact Keeps.sum _ _ _ _ | exact (Keeps.sum _ _ _ _).trans (Keeps.setR _ hd _))) ?_)
  exact fun x h => by cases h
theorem keeps_bitw {s : Sp} (hd : s.i.d.toNat ≠ 15) : ∀ s', s.bitw = some s' → Keeps s s' := by
  unfold Sp.bitw
  repeat (refine opt_ite (opt_some (by first | exact keeps_shifted _ _ _ _ hd | exact Keeps.sign _ _ | exact (Keeps.sign _ _).trans (Keeps.setR _ hd _) | exact Keeps.setR _ hd _)) ?_)
  exact fun x h => by cases h
/-- the step of a quiet instruction -/
theorem quiet_step (mp : Value) (c : Ch) (f : Nat → Int) (x : Ins) (n at_ : Int) (hok : c.R.length = 16) (h0 : c.st = 0) (hat : c.R.getD 15 0 = at_) (hf : fetchS f at_ = (x, n, 0)) (hop : x.op = 45 ∨ (1 ≤ x.op ∧ x.op ≤ 27 ∧ x.d.toNat ≠ 15)) :
    ∃ c', stepS mp c f = (c', f, [⟨4, at_, -1, 1⟩]) ∧ c'.st = 0 ∧ c'.cyc = wrap64 (c.cyc + 1) ∧ c'.R.getD 15 0 = (at_ + 2) % 4294967296 := by
  subst hat
  have h43 : x.op ≠ 43 := by omega
  have hpc : (c.sp mp x).c.R.getD 15 0 = (c.R.getD 15 0 + 2) % 4294967296 := by
    unfold Ch.sp
    dsimp only
    rw [if_neg h43, getD_set_eq _ (by omega)]
  have key : ∃ s', (c.sp mp x).exec f = (s', f) ∧ Keeps (c.sp mp x) s' := by
    have hi : (c.sp mp x).i = x := rfl
    unfold Sp.exec
    cases hs : (c.sp mp x).sums with
    | some s' =>
      rcases hop with h | h
      · exfalso
        unfold Sp.sums at hs
        rw [hi, h] at hs
        simp at hs
      · exact ⟨s', rfl, keeps_sums (by rw [hi]; exact h.2.2) s' hs⟩
    | none =>
      dsimp only
      cases hb : (c.sp mp x).bitw with
      | some s' =>
        rcases hop with h | h
        · exfalso
          unfold Sp.bitw at hb
          rw [hi, h] at hb
          simp at hb
        · exact ⟨s', rfl, keeps_bitw (by rw [hi]; exact h.2.2) s' hb⟩
      | none =>
        dsimp only
        have h45 : x.op = 45 := by
          rcases hop with h | ⟨h1, h2, _⟩
          · exact h
          · exfalso
            unfold Sp.sums at hs
            unfold Sp.bitw at hb
            rw [hi] at hs hb
            have hc : x.op = 1 ∨ x.op = 2 ∨ x.op = 3 ∨ x.op = 4 ∨ x.op = 5 ∨ x.op = 6 ∨ x.op = 7 ∨ x.op = 8 ∨ x.op = 9 ∨ x.op = 10 ∨ x.op = 11 ∨ x.op = 12 ∨ x.op = 13 ∨ x.op = 14 ∨ x.op = 15 ∨ x.op = 16 ∨ x.op = 17 ∨ x.op = 18 ∨ x.op = 19 ∨ x.op = 20 ∨ x.op = 21 ∨ x.op = 22 ∨ x.op = 23 ∨ x.op = 24 ∨ x.op = 25 ∨ x.op = 26 ∨ x.op = 27 := by omega
            rcases hc with h | h | h | h | h | h | h | h | h | h | h | h | h | h | h | h | h | h | h | h | h | h | h | h | h | h | h <;> rw [h] at hs hb <;> simp at hs hb
        refine ⟨c.sp mp x, ?_, Keeps.refl _⟩
        unfold Sp.memS Sp.otherS
        rw [hi, h45]
        rfl
  obtain ⟨s', hx, hk⟩ := key
  have hfl : s'.fault = false := hk.fault
  have hs := stepS_ok (mp := mp) h0 hf hx hfl
  rw [hk.touch, hk.cost] at hs
  exact ⟨_, hs, hk.st.trans h0, by dsimp only; rw [hk.cyc]; rfl, hk.pc.trans hpc⟩
theorem right_low {x : Ins} (h : rightS x = true) (h1 : 1 ≤ x.op) (h2 : x.op ≤ 27) : x.d.toNat ≠ 15 := by
  obtain ⟨op, d, n, m, imm, cond⟩ := x
  dsimp only at h1 h2 ⊢
  have hc : op = 1 ∨ op = 2 ∨ op = 3 ∨ op = 4 ∨ op = 5 ∨ op = 6 ∨ op = 7 ∨ op = 8 ∨ op = 9 ∨ op = 10 ∨ op = 11 ∨ op = 12 ∨ op = 13 ∨ op = 14 ∨ op = 15 ∨ op = 16 ∨ op = 17 ∨ op = 18 ∨ op = 19 ∨ op = 20 ∨ op = 21 ∨ op = 22 ∨ op = 23 ∨ op = 24 ∨ op = 25 ∨ op = 26 ∨ op = 27 := by omega
  rcases hc with rfl | rfl | rfl | rfl | rfl | rfl | rfl | rfl | rfl | rfl | rfl | rfl | rfl | rfl | rfl | rfl | rfl | rfl | rfl | rfl | rfl | rfl | rfl | rfl | rfl | rfl | rfl <;> simp [rightS, rowOf, rowOk, rpS, reg, im] at h <;> omega
end Go.Proofs.Ytpihjhfaeloapaa
