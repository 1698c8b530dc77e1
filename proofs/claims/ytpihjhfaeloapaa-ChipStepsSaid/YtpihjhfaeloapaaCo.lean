/- MERGED by mergech.py: XCq XCo. -/
import Derived.Test.YtpihjhfaeloapaaCr
import Derived.Test.YtpihjhfaeloapaaVg
namespace Go.Proofs.Ytpihjhfaeloapaa
open Go.RowKit On Th
theorem byteAt_getB {f : Nat → Int} (hf : ∀ i, 0 ≤ f i ∧ f i ≤ 255) (a : Nat) (j : Nat) (hj : j < 4) : byteAt (getB f a 4) j = f (a + j) := by
  have e : getB f a 4 = f a + f (a + 1) * 256 + f (a + 2) * 65536 + f (a + 3) * 16777216 := by simp [getB]
  rw [e]
  have h0 := hf a; have h1 := hf (a + 1); have h2 := hf (a + 2); have h3 := hf (a + 3)
  unfold byteAt
  have hc : j = 0 ∨ j = 1 ∨ j = 2 ∨ j = 3 := by omega
  rcases hc with rfl | rfl | rfl | rfl <;> simp <;> omega
theorem setB_getB {f : Nat → Int} (hf : ∀ i, 0 ≤ f i ∧ f i ≤ 255) (a : Nat) : setB f a 4 (getB f a 4) = f := by
  funext j
  unfold setB
  split
  · rename_i h
    rw [byteAt_getB hf a (j - a) (by omega)]
    congr 1; omega
  · rfl
/-- may a word be stored there? -/
def okSW (a : Int) : Bool := decide (131072 ≤ a ∧ a % 4 = 0 ∧ a < 262144)
theorem setWordS_ok (f : Nat → Int) (a v : Int) : (setWordS f a v).2 = okSW a := by
  unfold setWordS okSW
  split
  · rename_i h; rw [decide_eq_true h]
  · rename_i h; rw [decide_eq_false h]
theorem setWordS_same {f : Nat → Int} (hf : ∀ i, 0 ≤ f i ∧ f i ≤ 255) (a : Int) : (setWordS f a (wordS f a).1).1 = f := by
  unfold setWordS wordS
  split
  · rename_i h
    rw [if_pos (by omega)]
    exact setB_getB hf _
  · rfl
def badUp (a : Int) : Nat → Bool
  | 0 => false
  | k + 1 => badUp a k || !okSW (a + 4 * k)
def storeUp (f : Nat → Int) (a : Int) (R l : List Int) : Nat → Nat → Int
  | 0 => f
  | k + 1 => (setWordS (storeUp f a R l k) (a + 4 * k) (R.getD (l.getD k 0).toNat 0)).1
/-- Push -/
def pushBase (s : Sp) : Int := (s.c.R.getD 13 0 - 4 * (listS s.i.imm 14).length) % 4294967296
def Sp.push0 (s : Sp) : Sp := { s.setR 13 (pushBase s) with touch := pushBase s, cost := 1 + (listS s.i.imm 14).length }
def Sp.push (s : Sp) : Sp := { s.push0 with fault := badUp (pushBase s) (listS s.i.imm 14).length }
def pushF (s : Sp) (f : Nat → Int) : Nat → Int := if badUp (pushBase s) (listS s.i.imm 14).length then f else storeUp f (pushBase s) s.push0.c.R (listS s.i.imm 14) (listS s.i.imm 14).length
theorem bitsTo_mem (imm : Int) (k : Nat) : ∀ x ∈ bitsTo imm k, 0 ≤ x ∧ x < k := by
  induction k with
  | zero => simp [bitsTo]
  | succ k ih =>
    intro x hx
    unfold bitsTo at hx
    rcases List.mem_append.mp hx with h | h
    · have := ih x h; omega
    · split at h
      · simp at h; omega
      · simp at h
theorem listS_mem {imm last : Int} (h0 : 0 ≤ last) (h1 : last < 16) : ∀ x ∈ listS imm last, 0 ≤ x ∧ x < 16 := by
  intro x hx
  unfold listS at hx
  rcases List.mem_append.mp hx with h | h
  · have := bitsTo_mem imm 8 x h; omega
  · split at h
    · simp at h; omega
    · simp at h
theorem listS_len (imm last : Int) : (listS imm last).length ≤ 9 := by
  unfold listS
  have := bitsTo_len imm 8
  rw [List.length_append]
  split <;> simp <;> omega
theorem IntsO.only {B : Nat} {w w' : World} {A : Option Addr} {c : Nat} {l : List Int} {S : Nat → Prop} (h : IntsO B w A c l) (hO : Only S w w') (hS : ∀ k, S k → k < B) : IntsO B w' A c l :=
  own_only h hO (fun k hk hs => by have := (h.lt k hk).1; have := hS k hs; omega)
theorem IntsO.cell {B : Nat} {w : World} {A : Option Addr} {c : Nat} {l : List Int} (h : IntsO B w A c l) {k : Nat} {x : Int} (hx : l[k]? = some x) : ∃ g, A = some ⟨g, 0, none⟩ ∧ w.cell? ⟨g, k, none⟩ = some (.int .i64 x) := by
  have hk : k < l.length := (List.getElem?_eq_some_iff.mp hx).1
  obtain ⟨A', c', e, ⟨_, h0, _⟩ | ⟨g, cur, rfl, hb, hg, h1, h2, h3, h4⟩⟩ := own_slice h
  · omega
  · injection e with e1 _ _
    subst e1
    refine ⟨g, rfl, ?_⟩
    have : (cur.toList.take (l.length * 1))[k]? = some (.int .i64 x) := by rw [h4, List.getElem?_map, hx]; rfl
    rw [List.getElem?_take, if_pos (by omega)] at this
    rw [hg.cell, ← Array.getElem?_toList]
    exact this
set_option maxHeartbeats 8000000 in
set_option maxRecDepth 100000 in
theorem push_c (w : World) (p m g : Nat) (s : Sp) (f : Nat → Int) (h : SpW w p s) (hm : MW w m g f) (hsm : s.m = .pointer (some ⟨m, 0, none⟩)) (hk0 : 0 ≤ s.i.imm) (hk1 : s.i.imm ≤ 511) (hft : s.fault = false) :
    Calls Try.prog 63 #[.pointer (some ⟨p, 0, none⟩)] w fun e w' => e = .returned (.tuple #[]) ∧ SpW w' p s.push ∧ MW w' m g (pushF s f) ∧ Only (fun k => k = p ∨ k = g) w w' := by
  have hap := h.apart hm
  have hpl := h.lt
  have hgl : g < w.heap.size := by obtain ⟨_, cs, hc, _⟩ := hm; exact hc.lt
  have HFR := Lib.hid hm.range
  obtain ⟨_, _, _, _, _, r5, _⟩ := h.rest
  have H := Lib.hid h; have HM := Lib.hid hm
  have HLC := Lib.hid (list_c w s.i.imm 14 hk0 hk1)
  have HLL := Lib.hid (listS_len s.i.imm 14)
  have HLM := Lib.hid (listS_mem (imm := s.i.imm) (last := 14) (by decide) (by decide))
  have HPB : Hid (pushBase s = (s.c.R.getD 13 0 - 4 * (listS s.i.imm 14).length) % 4294967296) := rfl
  have HP0 : Hid (s.push0 = { s.setR 13 (pushBase s) with touch := pushBase s, cost := 1 + (listS s.i.imm 14).length }) := rfl
  have HPU : Hid (s.push = { s.push0 with fault := badUp (pushBase s) (listS s.i.imm 14).length }) := rfl
  have HPF : Hid (pushF s f = if badUp (pushBase s) (listS s.i.imm 14).length then f else storeUp f (pushBase s) s.push0.c.R (listS s.i.imm 14) (listS s.i.imm 14).length) := rfl
  have HF0 : Hid (s.push0 = { s.push0 with fault := badUp (pushBase s) 0 }) := by show _ = _; unfold Sp.push0 badUp Sp.setR; rw [hft]
  have HSM : Hid (s.push0.m = .pointer (some ⟨m, 0, none⟩)) := hsm
  have hR13 := h.2.reg (k := 13) (by omega)
  have HR13 := Lib.hid hR13
  clear hR13 h hm hk0 hk1 hft
  generalize listS s.i.imm 14 = l at *
  generalize pushBase s = base at *
  generalize s.i.imm = imm at *
  go_enter Try.func63, Try.ntmps63
  go_wp2_with fail
  refine (HLC.out).mono ?_
  rintro e w1 ⟨A, c, rfl, ho, hb⟩
  have HO := Lib.hid ho
  have HB := Lib.hid hb
  have hh1 : SpW w1 p s := H.out.only (S := fun _ => False) (Only.of_below hb) id
  have HM1 : Hid (MW w1 m g f) := HM.out.only (S := fun _ => False) (Only.of_below hb) id id
  have H1 := Lib.hid hh1
  have q13 := hh1.reg (k := 13) (by omega)
  have z13 := hh1.frozen 13
  have z31 := hh1.frozen 31
  have z32 := hh1.frozen 32
  obtain ⟨_, _, _, _, _, _, _, _, q31, q32, _⟩ := hh1.rest
  obtain ⟨u0, u1⟩ := HR13.out
  have hlen := HLL.out
  clear ho hb hh1 HLC r5 H HM
  generalize hr13 : s.c.R.getD 13 0 = r13 at *
  generalize hn : l.length = n at *
  have HBE : Hid (base = (r13 - 4 * n) % 4294967296) := HPB.out
  go_wp2_with fail
  go_region
  go_wp2_with fail
  rw [← HBE.out]
  obtain ⟨wz, hwz⟩ : ∃ wz, wz = (((w1.setCell ⟨p, 13, none⟩ (.int .u32 base)).setCell ⟨p, 31, none⟩ (.int .i64 base)).setCell ⟨p, 32, none⟩ (.int .i64 (1 + n))).drew := ⟨_, rfl⟩
  have hOz : Only (fun j => j = p) w1 wz := by rw [hwz]; exact ((((Only.refl (fun j => j = p) w1).setCell (p := ⟨p, 13, none⟩) (.inl rfl) _).setCell (p := ⟨p, 31, none⟩) (.inl rfl) _).setCell (p := ⟨p, 32, none⟩) (.inl rfl) _).drew
  have HZ : Hid (SpW wz p s.push0) := by
    rw [HP0.out, hwz]
    exact (((H1.out.setReg (k := 13) (by omega) (by unfold U; rw [HBE.out]; omega)).setTouch base).setCost (1 + n)).only (S := fun _ => False) ((Only.refl _ _).drew) id
  have HMZ : Hid (MW wz m g f) := HM1.out.only hOz (fun e => hap.1 e.symm) (fun e => hap.2 e.symm)
  have HOZ : Hid (IntsO w.heap.size wz A c l) := HO.out.only hOz (fun j e => by omega)
  have OZ : Hid (Only (fun j => j = p ∨ j = g) w wz) := (Only.of_below (S := fun j => j = p ∨ j = g) HB.out).trans (hOz.mono (T := fun j => j = p ∨ j = g) (fun _ _ e => .inl e)) (fun _ _ e => e)
  have HT0 : Hid (s.push0.touch = base) := by show _ = _; rw [HP0.out]
  rw [← hwz]
  clear hwz hOz HP0 H1 HM1 HO HB z13 z31 z32 q31 q32 q13 HR13 HPB
  generalize s.push0 = s0 at *
  have HNL : Hid (l.length = n) := hn
  clear hn
  go_loopw [48] (fun i wx => ∃ (k : Nat), k ≤ n ∧ i = .int .i64 k ∧ SpW wx p { s0 with fault := badUp base k } ∧ MW wx m g f ∧ IntsO w.heap.size wx A c l ∧ Only (fun j => j = p ∨ j = g) w wx) (fun i _ => n - (intOf i).toNat)
  case atStart => exact ⟨0, Nat.zero_le _, rfl, by rw [← HF0.out]; exact HZ.out, HMZ.out, HOZ.out, OZ.out⟩
  case round =>
    obtain ⟨k, hk, rfl, hs, hm, ho, hO⟩ := hrel
    have HS := Lib.hid hs; have HMX := Lib.hid hm; have HOX := Lib.hid ho; have OX := Lib.hid hO
    obtain ⟨r23, _, _, _, _, _, _, _, r31, _, r33⟩ := hs.rest
    have z33 := hs.frozen 33
    dsimp only at r23 r31 r33
    rw [HSM.out] at r23
    rw [HT0.out] at r31
    clear hs hm ho hO HZ HMZ HOZ OZ
    have u2 : 0 ≤ base ∧ base < 4294967296 := by rw [HBE.out]; omega
    obtain ⟨u2a, u2b⟩ := u2
    have HBS : Hid (badUp base (k + 1) = (badUp base k || !okSW (base + 4 * k))) := rfl
    by_cases hlt : k < n
    · have HW := Lib.hid (fun (wq : World) (g' : MW wq m g f) => word_c wq m g f (base + 4 * k) g')
      have HWU := Lib.hid (wordS_U HFR.out (base + 4 * k))
      have HSW := Lib.hid (fun (wq : World) (g' : MW wq m g f) => setword_c wq m g f (base + 4 * k) (wordS f (base + 4 * k)).1 g')
      have HSO := Lib.hid (setWordS_ok f (base + 4 * k) (wordS f (base + 4 * k)).1)
      have HSS := Lib.hid (setWordS_same HFR.out (base + 4 * k))
      rw [HSO.out, HSS.out] at HSW
      generalize wordS f (base + 4 * k) = wo at *
      obtain ⟨v, ok⟩ := wo
      dsimp only at HW HWU HSW
      clear HSO HSS
      obtain ⟨v1, v2⟩ := HWU.out
      generalize okSW (base + 4 * k) = okk at *
      cases hbk : badUp base k
      · rw [hbk] at r33 HBS HS
        clear hbk
        go_wp2_with fail
        refine (HW.out _ HMX.out).mono ?_
        rintro e w' ⟨rfl, rfl⟩
        go_wp2_with fail
        refine (HSW.out _ HMX.out).mono ?_
        rintro e w2 ⟨rfl, h2, o2⟩
        have HM2 := Lib.hid h2
        have HS2 : Hid (SpW w2 p { s0 with fault := false }) := HS.out.only o2 hap.2
        have HO2 : Hid (IntsO w.heap.size w2 A c l) := HOX.out.only o2 (fun j e => by omega)
        have O2 : Hid (Only (fun j => j = p ∨ j = g) w w2) := OX.out.trans (o2.mono (T := fun j => j = p ∨ j = g) (fun _ _ e => .inr e)) (fun _ _ e => e)
        clear h2 o2 z33 r33 r31 r23
        obtain ⟨_, _, _, _, _, _, _, _, _, _, r33⟩ := HS2.out.rest
        have z33 := HS2.out.frozen 33
        dsimp only at r33
        go_wp2_with fail
        go_roundw
        case rel =>
          refine ⟨k + 1, by omega, by go_num, ?_, HM2.out.only (S := fun j => j = p) ((Only.refl (fun j => j = p) w2).setCell (p := ⟨p, 33, none⟩) (.inl rfl) _) (fun e => hap.1 e.symm) (fun e => hap.2 e.symm), HO2.out.only (S := fun j => j = p) ((Only.refl (fun j => j = p) w2).setCell (p := ⟨p, 33, none⟩) (.inl rfl) _) (fun j e => by omega), O2.out.setCell (p := ⟨p, 33, none⟩) (.inl (.inl rfl)) _⟩
          rw [HBS.out, Bool.false_or]
          exact HS2.out.setFault (!okk)
        case measure => simp [intOf]; omega
      · rw [hbk] at r33 HBS HS
        clear hbk
        go_wp2_with fail
        refine (HW.out _ HMX.out).mono ?_
        rintro e w' ⟨rfl, rfl⟩
        go_wp2_with fail
        go_roundw
        case rel =>
          refine ⟨k + 1, by omega, by go_num, ?_, HMX.out.only (S := fun j => j = p) ((Only.refl (fun j => j = p) _).setCell (p := ⟨p, 33, none⟩) (.inl rfl) _) (fun e => hap.1 e.symm) (fun e => hap.2 e.symm), HOX.out.only (S := fun j => j = p) ((Only.refl (fun j => j = p) _).setCell (p := ⟨p, 33, none⟩) (.inl rfl) _) (fun j e => by omega), OX.out.setCell (p := ⟨p, 33, none⟩) (.inl (.inl rfl)) _⟩
          rw [HBS.out, Bool.true_or]
          exact HS.out.setFault true
        case measure => simp [intOf]; omega
    · have hkn : k = n := by omega
      subst hkn
      clear r23 r31 r33 z33 HBS hlt HF0
      have HPU2 : Hid (s.push = { s0 with fault := badUp base k }) := HPU.out
      have HPF2 : Hid (pushF s f = if badUp base k = true then f else storeUp f base s0.c.R l k) := HPF.out
      have HC0 : Hid (s0.c.ok) := HS.out.2
      clear HPU HPF
      generalize hb2 : badUp base k = bn at *
      clear hb2
      obtain ⟨wy, hwy⟩ : ∃ wy, wr = wy := ⟨_, rfl⟩
      rw [hwy] at HS HMX HOX OX ⊢
      clear hwy
      go_wp2_with fail
      go_loopw [87] (fun i wx => ∃ (q : Nat), q ≤ k ∧ i = .int .i64 q ∧ SpW wx p { s0 with fault := bn } ∧ MW wx m g (if bn = true then f else storeUp f base s0.c.R l q) ∧ IntsO w.heap.size wx A c l ∧ Only (fun j => j = p ∨ j = g) w wx) (fun i _ => k - (intOf i).toNat)
      case atStart => exact ⟨0, Nat.zero_le _, rfl, HS.out, by cases bn <;> exact HMX.out, HOX.out, OX.out⟩
      case round =>
        obtain ⟨q, hq, rfl, hs, hm, ho, hO⟩ := hrel
        have HS3 := Lib.hid hs; have HM3 := Lib.hid hm; have HO3 := Lib.hid ho; have OX3 := Lib.hid hO
        obtain ⟨r23, _, _, _, _, _, _, _, r31, _, r33⟩ := hs.rest
        dsimp only at r23 r31 r33
        rw [HSM.out] at r23
        rw [HT0.out] at r31
        clear hs hm ho hO HS HMX HOX OX
        by_cases hlt : q < k
        · obtain ⟨x, hx⟩ : ∃ x, l[q]? = some x := ⟨_, List.getElem?_eq_getElem (by rw [HNL.out]; exact hlt)⟩
          obtain ⟨gl, rfl, cx⟩ := HO3.out.cell hx
          obtain ⟨x0, x1⟩ := HLM.out x (List.mem_of_getElem? hx)
          have HGD : Hid (l.getD q 0 = x) := by show _ = _; rw [List.getD_eq_getElem?_getD, hx]; rfl
          clear hx
          obtain ⟨xn, rfl⟩ : ∃ xn : Nat, x = xn := ⟨x.toNat, by omega⟩
          have qx := HS3.out.reg (k := xn) (by omega)
          dsimp only at qx
          have HST : Hid (storeUp f base s0.c.R l (q + 1) = (setWordS (storeUp f base s0.c.R l q) (base + 4 * q) (s0.c.R.getD xn 0)).1) := by
            show _ = _
            rw [show storeUp f base s0.c.R l (q + 1) = (setWordS (storeUp f base s0.c.R l q) (base + 4 * q) (s0.c.R.getD (l.getD q 0).toNat 0)).1 from rfl, HGD.out]; rfl
          have HU := Lib.hid (HC0.out.reg (k := xn) (by omega))
          generalize s0.c.R.getD xn 0 = v at *
          obtain ⟨v1, v2⟩ := HU.out
          cases bn
          · rw [if_neg Bool.false_ne_true] at HM3
            generalize storeUp f base s0.c.R l q = fq at *
            have HD3 : Hid (SpW wr.drew p { s0 with fault := false }) := HS3.out.only (S := fun _ => False) ((Only.refl _ _).drew) id
            have HMD : Hid (MW wr.drew m g fq) := HM3.out.only (S := fun _ => False) ((Only.refl _ _).drew) id id
            have HOD : Hid (IntsO w.heap.size wr.drew (some ⟨gl, 0, none⟩) c l) := HO3.out.only (S := fun _ => False) ((Only.refl _ _).drew) (fun _ h => h.elim)
            have OD : Hid (Only (fun j => j = p ∨ j = g) w wr.drew) := OX3.out.drew
            have hqi : (q : Int) < (k : Int) := by omega
            have hxi : (xn : Int) < 16 := by omega
            go_wp2_with fail
            go_still_tail 18, (by kernel_rfl)
            change wpList _ _ _ _ _ wr.drew
            go_wp2_with fail
            refine (setword_c _ m g fq (base + 4 * q) v HMD.out).mono ?_
            rintro e w2 ⟨rfl, h2, o2⟩
            have HM2 := Lib.hid h2
            have HS2 : Hid (SpW w2 p { s0 with fault := false }) := HD3.out.only o2 hap.2
            have HO2 : Hid (IntsO w.heap.size w2 (some ⟨gl, 0, none⟩) c l) := HOD.out.only o2 (fun j e => by omega)
            have O2 : Hid (Only (fun j => j = p ∨ j = g) w w2) := OD.out.trans (o2.mono (T := fun j => j = p ∨ j = g) (fun _ _ e => .inr e)) (fun _ _ e => e)
            clear h2 o2 r23 r31 r33 qx cx
            go_wp2_with fail
            go_roundw
            case rel => exact ⟨q + 1, by omega, by go_num, HS2.out, by first | (rw [HST.out]; exact HM2.out) | (rw [if_neg Bool.false_ne_true, HST.out]; exact HM2.out), HO2.out, O2.out⟩
            case measure => simp [intOf]; omega
          · have hqi : (q : Int) < (k : Int) := by omega
            rw [if_pos rfl] at HM3
            go_wp2_with fail
            go_roundw
            case rel => exact ⟨q + 1, by omega, by go_num, HS3.out, by first | exact HM3.out | (rw [if_pos rfl]; exact HM3.out), HO3.out, OX3.out⟩
            case measure => simp [intOf]; omega
        · have hqk : q = k := by omega
          subst hqk
          go_wp2_with fail
          go_end0
          exact ⟨rfl, by rw [HPU2.out]; exact HS3.out, by rw [HPF2.out]; exact HM3.out, OX3.out⟩
end Go.Proofs.Ytpihjhfaeloapaa
namespace Go.Proofs.Ytpihjhfaeloapaa
open Go.RowKit On Th
def popStep (f : Nat → Int) (a r : Int) (s : Sp) : Sp :=
  if r = 15 then Sp.setR { s with fault := s.fault || !(wordS f a).2, cost := s.cost + 3 } 15 (bits .andNot .u32 (wordS f a).1 1)
  else Sp.setR { s with fault := s.fault || !(wordS f a).2 } r.toNat (wordS f a).1
def popUp (f : Nat → Int) (a : Int) (l : List Int) (s : Sp) : Nat → Sp
  | 0 => s
  | k + 1 => popStep f (a + 4 * k) (l.getD k 0) (popUp f a l s k)
def Sp.pop0 (s : Sp) : Sp := { s with touch := s.c.R.getD 13 0, cost := 1 + (listS s.i.imm 15).length }
def Sp.popE (s : Sp) (f : Nat → Int) : Sp := popUp f (s.c.R.getD 13 0) (listS s.i.imm 15) s.pop0 (listS s.i.imm 15).length
def Sp.pop (s : Sp) (f : Nat → Int) : Sp := (s.popE f).setR 13 (((s.popE f).c.R.getD 13 0 + 4 * (listS s.i.imm 15).length) % 4294967296)
theorem popStep_keeps (f : Nat → Int) (a r : Int) (s : Sp) : (popStep f a r s).m = s.m ∧ (popStep f a r s).touch = s.touch ∧ (popStep f a r s).i = s.i ∧ (popStep f a r s).at_ = s.at_ ∧ s.cost ≤ (popStep f a r s).cost ∧ (popStep f a r s).cost ≤ s.cost + 3 := by
  unfold popStep Sp.setR
  split <;> exact ⟨rfl, rfl, rfl, rfl, by dsimp only; omega, by dsimp only; omega⟩
theorem popUp_keeps (f : Nat → Int) (a : Int) (l : List Int) (s : Sp) (k : Nat) : (popUp f a l s k).m = s.m ∧ (popUp f a l s k).touch = s.touch ∧ (popUp f a l s k).i = s.i ∧ (popUp f a l s k).at_ = s.at_ ∧ s.cost ≤ (popUp f a l s k).cost ∧ (popUp f a l s k).cost ≤ s.cost + 3 * k := by
  induction k with
  | zero => exact ⟨rfl, rfl, rfl, rfl, by simp [popUp], by simp [popUp]⟩
  | succ k ih =>
    obtain ⟨h1, h2, h3, h4, h5, h6⟩ := ih
    obtain ⟨g1, g2, g3, g4, g5, g6⟩ := popStep_keeps f (a + 4 * k) (l.getD k 0) (popUp f a l s k)
    unfold popUp
    exact ⟨g1.trans h1, g2.trans h2, g3.trans h3, g4.trans h4, by omega, by omega⟩
set_option maxHeartbeats 8000000 in
set_option maxRecDepth 100000 in
theorem pop_c (w : World) (p m g : Nat) (s : Sp) (f : Nat → Int) (h : SpW w p s) (hm : MW w m g f) (hsm : s.m = .pointer (some ⟨m, 0, none⟩)) (hk0 : 0 ≤ s.i.imm) (hk1 : s.i.imm ≤ 511) :
    Calls Try.prog 64 #[.pointer (some ⟨p, 0, none⟩)] w fun e w' => e = .returned (.tuple #[]) ∧ SpW w' p (s.pop f) ∧ MW w' m g f ∧ Only (fun k => k = p ∨ k = g) w w' := by
  have hap := h.apart hm
  have hpl := h.lt
  have HFR := Lib.hid hm.range
  obtain ⟨_, _, _, _, _, r5, _⟩ := h.rest
  have H := Lib.hid h; have HM := Lib.hid hm
  have HLC := Lib.hid (list_c w s.i.imm 15 hk0 hk1)
  have HLL := Lib.hid (listS_len s.i.imm 15)
  have HLM := Lib.hid (listS_mem (imm := s.i.imm) (last := 15) (by decide) (by decide))
  have HP0 : Hid (s.pop0 = { s with touch := s.c.R.getD 13 0, cost := 1 + (listS s.i.imm 15).length }) := rfl
  have HPE : Hid (s.popE f = popUp f (s.c.R.getD 13 0) (listS s.i.imm 15) s.pop0 (listS s.i.imm 15).length) := rfl
  have HPP : Hid (s.pop f = (s.popE f).setR 13 (((s.popE f).c.R.getD 13 0 + 4 * (listS s.i.imm 15).length) % 4294967296)) := rfl
  have HR13 := Lib.hid (h.2.reg (k := 13) (by omega))
  clear h hm hk0 hk1
  generalize listS s.i.imm 15 = l at *
  generalize s.i.imm = imm at *
  go_enter Try.func64, Try.ntmps64
  go_wp2_with fail
  refine (HLC.out).mono ?_
  rintro e w1 ⟨A, c, rfl, ho, hb⟩
  have HO := Lib.hid ho
  have HB := Lib.hid hb
  have hh1 : SpW w1 p s := H.out.only (S := fun _ => False) (Only.of_below hb) id
  have HM1 : Hid (MW w1 m g f) := HM.out.only (S := fun _ => False) (Only.of_below hb) id id
  have H1 := Lib.hid hh1
  have q13 := hh1.reg (k := 13) (by omega)
  have z31 := hh1.frozen 31
  have z32 := hh1.frozen 32
  obtain ⟨_, _, _, _, _, _, _, _, q31, q32, _⟩ := hh1.rest
  obtain ⟨u0, u1⟩ := HR13.out
  have hlen := HLL.out
  clear ho hb hh1 HLC r5 H HM
  generalize s.c.R.getD 13 0 = base at *
  generalize hn : l.length = n at *
  have HNL : Hid (l.length = n) := hn
  clear hn
  go_wp2_with fail
  obtain ⟨wz, hwz⟩ : ∃ wz, wz = ((w1.setCell ⟨p, 31, none⟩ (.int .i64 base)).setCell ⟨p, 32, none⟩ (.int .i64 (1 + n))) := ⟨_, rfl⟩
  have hOz : Only (fun j => j = p) w1 wz := by rw [hwz]; exact ((Only.refl (fun j => j = p) w1).setCell (p := ⟨p, 31, none⟩) (.inl rfl) _).setCell (p := ⟨p, 32, none⟩) (.inl rfl) _
  have HZ : Hid (SpW wz p s.pop0) := by
    rw [HP0.out, hwz]
    exact (H1.out.setTouch base).setCost (1 + n)
  have HMZ : Hid (MW wz m g f) := HM1.out.only hOz (fun e => hap.1 e.symm) (fun e => hap.2 e.symm)
  have HOZ : Hid (IntsO w.heap.size wz A c l) := HO.out.only hOz (fun j e => by omega)
  have OZ : Hid (Only (fun j => j = p) w wz) := (Only.of_below (S := fun j => j = p) HB.out).trans hOz (fun _ _ e => e)
  have HT0 : Hid (s.pop0.touch = base ∧ s.pop0.cost = 1 + n ∧ s.pop0.m = .pointer (some ⟨m, 0, none⟩)) := by show _ ∧ _; rw [HP0.out]; exact ⟨rfl, rfl, hsm⟩
  rw [← hwz]
  clear hwz hOz HP0 H1 HM1 HO HB z31 z32 q31 q32 q13 HR13
  generalize s.pop0 = s0 at *
  go_loopw [31] (fun i wx => ∃ (k : Nat), k ≤ n ∧ i = .int .i64 k ∧ SpW wx p (popUp f base l s0 k) ∧ MW wx m g f ∧ IntsO w.heap.size wx A c l ∧ Only (fun j => j = p) w wx) (fun i _ => n - (intOf i).toNat)
  case atStart => exact ⟨0, Nat.zero_le _, rfl, HZ.out, HMZ.out, HOZ.out, OZ.out⟩
  case round =>
    obtain ⟨k, hk, rfl, hs, hm, ho, hO⟩ := hrel
    have HS := Lib.hid hs; have HMX := Lib.hid hm; have HOX := Lib.hid ho; have OX := Lib.hid hO
    clear HZ HMZ HOZ OZ
    have hke := popUp_keeps f base l s0 k
    rw [HT0.out.1, HT0.out.2.1, HT0.out.2.2] at hke
    obtain ⟨km, kt, _, _, kc1, kc2⟩ := hke
    obtain ⟨r23, _, _, _, _, _, _, _, r31, r32, r33⟩ := hs.rest
    rw [km] at r23
    rw [kt] at r31
    have HPS : Hid (popUp f base l s0 (k + 1) = popStep f (base + 4 * k) (l.getD k 0) (popUp f base l s0 k)) := rfl
    generalize hsk : popUp f base l s0 k = sk at *
    have HSK := Lib.hid hsk
    have z33 := hs.frozen 33
    have z32 := hs.frozen 32
    clear hs ho hO hsk km kt
    by_cases hlt : k < n
    · obtain ⟨x, hx⟩ : ∃ x, l[k]? = some x := ⟨_, List.getElem?_eq_getElem (by rw [HNL.out]; exact hlt)⟩
      obtain ⟨gl, rfl, cx⟩ := HOX.out.cell hx
      obtain ⟨x0, x1⟩ := HLM.out x (List.mem_of_getElem? hx)
      have HGD : l.getD k 0 = x := by rw [List.getD_eq_getElem?_getD, hx]; rfl
      rw [HGD] at HPS
      clear hx HGD
      obtain ⟨xn, rfl⟩ : ∃ xn : Nat, x = xn := ⟨x.toNat, by omega⟩
      have qx := HS.out.reg (k := xn) (by omega)
      have zx := HS.out.frozen xn
      have hki : (k : Int) < (n : Int) := by omega
      have hxi : (xn : Int) < 16 := by omega
      have HWU := Lib.hid (wordS_U HFR.out (base + 4 * k))
      have hw : ∀ m', Calls Try.prog 25 #[.pointer (some ⟨m, 0, none⟩), .int .i64 (base + 4 * k)] (wr.drewN m') fun e w' => e = .returned (.tuple #[.int .u32 (wordS f (base + 4 * k)).1, .bool (wordS f (base + 4 * k)).2]) ∧ w' = wr.drewN m' := fun m' =>
        (word_c _ m g f (base + 4 * k) (HMX.out.only (S := fun _ => False) ((Only.refl _ _).drewN _) id id)).mono fun _ _ h => ⟨h.1, h.2.symm⟩
      unfold popStep at HPS
      generalize wordS f (base + 4 * k) = wo at *
      obtain ⟨v, ok⟩ := wo
      dsimp only at hw HWU HPS
      obtain ⟨v1, v2⟩ := HWU.out
      have HANU := Lib.hid (andNot_U HWU.out (show U 1 by unfold U; omega))
      clear hm
      go_wp2_with fail
      go_quiet (first | (go_at_call 25; with_reducible exact Calls.quiet_of_same (hw _)))
      obtain ⟨wd, hwd⟩ : ∃ wd, wd = wr.drewN nq := ⟨_, rfl⟩
      have hod : Only (fun _ => False) wr wd := by rw [hwd]; exact (Only.refl _ _).drewN _
      have HSd := Lib.hid (HS.out.only hod id)
      have HMd := Lib.hid (HMX.out.only hod id id)
      have HOd := Lib.hid (HOX.out.only hod (fun _ h => h.elim))
      have Od := Lib.hid (OX.out.trans (hod.mono (T := fun j => j = p) (fun _ _ h => h.elim)) (fun _ _ e => e))
      rw [← hwd]
      clear hwd hod hw HS HMX HOX OX r23 r31 r32 r33 z32 z33 zx qx cx
      obtain ⟨_, _, _, _, _, _, _, _, _, r32, r33⟩ := HSd.out.rest
      have z32 := HSd.out.frozen 32
      have z33 := HSd.out.frozen 33
      have zx := HSd.out.frozen xn
      have qx := HSd.out.reg (k := xn) (by omega)
      by_cases h15 : xn = 15
      · subst h15
        rw [if_pos (show ((15 : Nat) : Int) = 15 from rfl)] at HPS
        cases hf : sk.fault
        · rw [hf, Bool.false_or] at HPS
          rw [hf] at r33
          clear hf
          go_wp2_with fail
          go_roundw
          case rel =>
            refine ⟨k + 1, by omega, by go_num, ?_, HMd.out.only (S := fun j => j = p) ((((Only.refl (fun j => j = p) wd).setCell (p := ⟨p, 33, none⟩) (.inl rfl) _).setCell (p := ⟨p, 32, none⟩) (.inl rfl) _).setCell (p := ⟨p, 15, none⟩) (.inl rfl) _) (fun e => hap.1 e.symm) (fun e => hap.2 e.symm), HOd.out.only (S := fun j => j = p) ((((Only.refl (fun j => j = p) wd).setCell (p := ⟨p, 33, none⟩) (.inl rfl) _).setCell (p := ⟨p, 32, none⟩) (.inl rfl) _).setCell (p := ⟨p, 15, none⟩) (.inl rfl) _) (fun j e => by omega), Od.out.trans ((((Only.refl (fun j => j = p) wd).setCell (p := ⟨p, 33, none⟩) (.inl rfl) _).setCell (p := ⟨p, 32, none⟩) (.inl rfl) _).setCell (p := ⟨p, 15, none⟩) (.inl rfl) _) (fun _ _ e => e)⟩
            rw [HPS.out]
            exact (((HSd.out.setFault (!ok)).setCost (sk.cost + 3)).setReg (k := 15) (by omega) HANU.out)
          case measure => simp [intOf]; omega
        · rw [hf, Bool.true_or] at HPS
          rw [hf] at r33
          clear hf
          go_wp2_with fail
          go_roundw
          case rel =>
            refine ⟨k + 1, by omega, by go_num, ?_, HMd.out.only (S := fun j => j = p) ((((Only.refl (fun j => j = p) wd).setCell (p := ⟨p, 33, none⟩) (.inl rfl) _).setCell (p := ⟨p, 32, none⟩) (.inl rfl) _).setCell (p := ⟨p, 15, none⟩) (.inl rfl) _) (fun e => hap.1 e.symm) (fun e => hap.2 e.symm), HOd.out.only (S := fun j => j = p) ((((Only.refl (fun j => j = p) wd).setCell (p := ⟨p, 33, none⟩) (.inl rfl) _).setCell (p := ⟨p, 32, none⟩) (.inl rfl) _).setCell (p := ⟨p, 15, none⟩) (.inl rfl) _) (fun j e => by omega), Od.out.trans ((((Only.refl (fun j => j = p) wd).setCell (p := ⟨p, 33, none⟩) (.inl rfl) _).setCell (p := ⟨p, 32, none⟩) (.inl rfl) _).setCell (p := ⟨p, 15, none⟩) (.inl rfl) _) (fun _ _ e => e)⟩
            rw [HPS.out]
            exact (((HSd.out.setFault (true)).setCost (sk.cost + 3)).setReg (k := 15) (by omega) HANU.out)
          case measure => simp [intOf]; omega
      · have h15i : ((xn : Int) == 15) = false := by simp; omega
        rw [if_neg (by omega), Int.toNat_natCast] at HPS
        cases hf : sk.fault
        · rw [hf, Bool.false_or] at HPS
          rw [hf] at r33
          clear hf
          go_wp2_with fail
          go_roundw
          case rel =>
            refine ⟨k + 1, by omega, by go_num, ?_, HMd.out.only (S := fun j => j = p) (((Only.refl (fun j => j = p) wd).setCell (p := ⟨p, 33, none⟩) (.inl rfl) _).setCell (p := ⟨p, xn, none⟩) (.inl rfl) _) (fun e => hap.1 e.symm) (fun e => hap.2 e.symm), HOd.out.only (S := fun j => j = p) (((Only.refl (fun j => j = p) wd).setCell (p := ⟨p, 33, none⟩) (.inl rfl) _).setCell (p := ⟨p, xn, none⟩) (.inl rfl) _) (fun j e => by omega), Od.out.trans (((Only.refl (fun j => j = p) wd).setCell (p := ⟨p, 33, none⟩) (.inl rfl) _).setCell (p := ⟨p, xn, none⟩) (.inl rfl) _) (fun _ _ e => e)⟩
            rw [HPS.out]
            exact ((HSd.out.setFault (!ok)).setReg (k := xn) (by omega) HWU.out)
          case measure => simp [intOf]; omega
        · rw [hf, Bool.true_or] at HPS
          rw [hf] at r33
          clear hf
          go_wp2_with fail
          go_roundw
          case rel =>
            refine ⟨k + 1, by omega, by go_num, ?_, HMd.out.only (S := fun j => j = p) (((Only.refl (fun j => j = p) wd).setCell (p := ⟨p, 33, none⟩) (.inl rfl) _).setCell (p := ⟨p, xn, none⟩) (.inl rfl) _) (fun e => hap.1 e.symm) (fun e => hap.2 e.symm), HOd.out.only (S := fun j => j = p) (((Only.refl (fun j => j = p) wd).setCell (p := ⟨p, 33, none⟩) (.inl rfl) _).setCell (p := ⟨p, xn, none⟩) (.inl rfl) _) (fun j e => by omega), Od.out.trans (((Only.refl (fun j => j = p) wd).setCell (p := ⟨p, 33, none⟩) (.inl rfl) _).setCell (p := ⟨p, xn, none⟩) (.inl rfl) _) (fun _ _ e => e)⟩
            rw [HPS.out]
            exact ((HSd.out.setFault (true)).setReg (k := xn) (by omega) HWU.out)
          case measure => simp [intOf]; omega
    · have hkn : k = n := by omega
      subst hkn
      have HE2 : Hid (s.popE f = sk) := by show _ = _; rw [HPE.out]; exact HSK.out
      have HPP2 : Hid (s.pop f = sk.setR 13 ((sk.c.R.getD 13 0 + 4 * k) % 4294967296)) := by show _ = _; rw [HPP.out, HE2.out]
      have q13 := HS.out.reg (k := 13) (by omega)
      have z13 := HS.out.frozen 13
      have HU13 := Lib.hid (HS.out.2.reg (k := 13) (by omega))
      generalize sk.c.R.getD 13 0 = e13 at *
      obtain ⟨e1, e2⟩ := HU13.out
      clear HPS HPP HPE HE2 r23 r31 r32 r33 z32 z33 hm
      go_wp2_with fail
      go_region
      go_wp2_with fail
      go_end0
      exact ⟨rfl, by rw [HPP2.out]; exact (HS.out.setReg (k := 13) (by omega) (by unfold U; omega)).only (S := fun _ => False) ((Only.refl _ _).drew) id, (HMX.out.only (S := fun j => j = p) ((Only.refl (fun j => j = p) wr).setCell (p := ⟨p, 13, none⟩) (.inl rfl) _) (fun e => hap.1 e.symm) (fun e => hap.2 e.symm)).only (S := fun _ => False) ((Only.refl _ _).drew) id id, ((OX.out.mono (T := fun j => j = p ∨ j = g) (fun _ _ e => .inl e)).setCell (p := ⟨p, 13, none⟩) (.inl (.inl rfl)) _).drew⟩
end Go.Proofs.Ytpihjhfaeloapaa
