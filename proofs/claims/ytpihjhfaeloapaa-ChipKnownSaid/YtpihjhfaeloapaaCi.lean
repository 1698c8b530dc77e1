/- ChipKnown. PRINTED by genci.py. -/
import Derived.Test.YtpihjhfaeloapaaQs
namespace Go.Proofs.Ytpihjhfaeloapaa
open Go.RowKit On Th
def KN : List Ins := [⟨39, 0, 0, 0, 259, 0⟩, ⟨40, 0, 0, 0, 260, 0⟩, ⟨44, 0, 0, 0, 9, 0⟩]
def KNF : Nat → Int := loadB (fun _ => 0) 8 (flatE KN) (flatE KN).length
def KN0 : Ch := ⟨[7, 8, 0, 0, 0, 0, 0, 0, 0, 0, 0, 0, 0, 262144, 13, 8], false, false, false, false, 0, 0, 0⟩
def KN1 : Ch := ⟨[7, 8, 0, 0, 0, 0, 0, 0, 0, 0, 0, 0, 0, 262132, 13, 10], false, false, false, false, 0, 0, 4⟩
def KN2 : Ch := ⟨[7, 8, 7, 0, 0, 0, 0, 0, 0, 0, 0, 0, 0, 262140, 13, 8], false, false, false, false, 0, 0, 10⟩
def KN3 : Ch := ⟨[7, 8, 7, 0, 0, 0, 0, 0, 0, 0, 0, 0, 0, 262140, 13, 12], false, false, false, false, 0, 0, 10⟩
def KN4 : Ch := ⟨[7, 8, 7, 0, 0, 0, 0, 0, 0, 0, 0, 0, 0, 262140, 13, 14], false, false, false, false, 1, 9, 11⟩
def KNd : Ch := ⟨[0, 0, 0, 0, 0, 0, 0, 0, 0, 0, 0, 0, 0, 0, 0, 131072], false, false, false, false, 0, 0, 0⟩
def KNe : Ch := ⟨[0, 0, 0, 0, 0, 0, 0, 0, 0, 0, 0, 0, 0, 0, 0, 131072], false, false, false, false, 2, 0, 0⟩
theorem KN_right : ∀ i ∈ KN, rightS i = true := by
  intro i hi
  simp [KN] at hi
  rcases hi with rfl | rfl | rfl <;> decide
def KNR : List Int := [7, 8, 0, 0, 0, 0, 0, 0, 0, 0, 0, 0, 0, 262132, 13, 10]
def KNF1 : Nat → Int := storeUp KNF 262132 KNR [0, 1, 14] 3
theorem kn1 (mp : Value) : stepS mp KN0 KNF = (KN1, KNF1, [⟨4, 8, 262132, 4⟩]) := by
  have hf : fetchS KNF (KN0.R.getD 15 0) = (⟨39, 0, 0, 0, 259, 0⟩, 1, 0) := by kernel_rfl
  have hl : listS 259 14 = [0, 1, 14] := by kernel_rfl
  have hb : badUp 262132 3 = false := by kernel_rfl
  have hx := exec_push mp KN0 KNF 259
  have hpb : pushBase (KN0.sp mp ⟨39, 0, 0, 0, 259, 0⟩) = 262132 := by
    unfold pushBase
    show (262144 - 4 * ((listS 259 14).length : Int)) % 4294967296 = 262132
    rw [hl]; rfl
  have hp : (KN0.sp mp ⟨39, 0, 0, 0, 259, 0⟩).push = ⟨⟨KNR, false, false, false, false, 0, 0, 0⟩, mp, ⟨39, 0, 0, 0, 259, 0⟩, 8, 262132, 4, false⟩ := by
    unfold Sp.push Sp.push0
    rw [hpb]
    kernel_rfl
  have hF : pushF (KN0.sp mp ⟨39, 0, 0, 0, 259, 0⟩) KNF = KNF1 := by
    unfold pushF Sp.push0
    rw [hpb]
    show (if badUp 262132 (listS 259 14).length = true then KNF else storeUp KNF 262132 KNR (listS 259 14) (listS 259 14).length) = KNF1
    rw [hl]
    show (if badUp 262132 3 = true then KNF else storeUp KNF 262132 KNR [0, 1, 14] 3) = KNF1
    rw [hb, if_neg (by decide)]
    rfl
  rw [hp, hF] at hx
  exact (stepS_ok rfl hf hx rfl).trans (by kernel_rfl)
theorem kn2 (mp : Value) : stepS mp KN1 KNF1 = (KN2, KNF1, [⟨4, 10, 262132, 6⟩]) := by
  have hf : fetchS KNF1 (KN1.R.getD 15 0) = (⟨40, 0, 0, 0, 260, 0⟩, 1, 0) := ((storeUp_low KNF 262132 KNR [0, 1, 14] 3).fetch _).trans (by kernel_rfl)
  have hx := exec_pop mp KN1 KNF1 260
  have ok : ∀ k : Nat, k < 3 → okSW (262132 + 4 * k) = true := fun k hk => by rw [okSW_iff]; omega
  have hU : ∀ k, U (KNR.getD (([0, 1, 14] : List Int).getD k 0).toNat 0) := fun k => by
    match k with
    | 0 => unfold U; decide
    | 1 => unfold U; decide
    | 2 => unfold U; decide
    | k + 3 => unfold U; simp; decide
  have w0 : wordS KNF1 (262132 + 4 * ((0 : Nat) : Int)) = (7, true) := storeUp_word (f := KNF) ok hU 0 (by omega)
  have w1 : wordS KNF1 (262132 + 4 * ((1 : Nat) : Int)) = (8, true) := storeUp_word (f := KNF) ok hU 1 (by omega)
  have hp : (KN1.sp mp ⟨40, 0, 0, 0, 260, 0⟩).pop KNF1 = ⟨⟨[7, 8, 7, 0, 0, 0, 0, 0, 0, 0, 0, 0, 0, 262140, 13, 8], false, false, false, false, 0, 0, 4⟩, mp, ⟨40, 0, 0, 0, 260, 0⟩, 10, 262132, 6, false⟩ := by
    have hl : listS 260 15 = [2, 15] := by kernel_rfl
    have hE : (KN1.sp mp ⟨40, 0, 0, 0, 260, 0⟩).popE KNF1 = ⟨⟨[7, 8, 7, 0, 0, 0, 0, 0, 0, 0, 0, 0, 0, 262132, 13, 8], false, false, false, false, 0, 0, 4⟩, mp, ⟨40, 0, 0, 0, 260, 0⟩, 10, 262132, 6, false⟩ := by
      unfold Sp.popE
      show popUp KNF1 262132 (listS 260 15) _ (listS 260 15).length = _
      rw [hl]
      show popStep KNF1 (262132 + 4 * ((1 : Nat) : Int)) 15 (popStep KNF1 (262132 + 4 * ((0 : Nat) : Int)) 2 _) = _
      unfold popStep
      rw [w0, w1]
      kernel_rfl
    have hP : (KN1.sp mp ⟨40, 0, 0, 0, 260, 0⟩).pop KNF1 = ((KN1.sp mp ⟨40, 0, 0, 0, 260, 0⟩).popE KNF1).setR 13 ((((KN1.sp mp ⟨40, 0, 0, 0, 260, 0⟩).popE KNF1).c.R.getD 13 0 + 4 * (listS 260 15).length) % 4294967296) := rfl
    rw [hP, hE, hl]
    rfl
  rw [hp] at hx
  exact (stepS_ok rfl hf hx rfl).trans (by kernel_rfl)
theorem kn3 (mp : Value) : (runUp mp KN3 KNF1 9).1 = KN4 := by
  have hf : fetchS KNF1 (KN3.R.getD 15 0) = (⟨44, 0, 0, 0, 9, 0⟩, 1, 0) := ((storeUp_low KNF 262132 KNR [0, 1, 14] 3).fetch _).trans (by kernel_rfl)
  have hx : (KN3.sp mp ⟨44, 0, 0, 0, 9, 0⟩).exec KNF1 = (⟨⟨[7, 8, 7, 0, 0, 0, 0, 0, 0, 0, 0, 0, 0, 262140, 13, 14], false, false, false, false, 1, 9, 10⟩, mp, ⟨44, 0, 0, 0, 9, 0⟩, 12, -1, 1, false⟩, KNF1) := by kernel_rfl
  have hs : stepS mp KN3 KNF1 = (KN4, KNF1, [⟨4, 12, -1, 1⟩]) := (stepS_ok rfl hf hx rfl).trans (by kernel_rfl)
  rw [runUp_stop mp KN3 KNF1 1 9 (by omega) (runUp_succ mp KN3 KNF1 0 rfl hs) (by show (1 : Int) ≠ 0; decide)]
theorem kn4 (mp : Value) (f : Nat → Int) : stepS mp KNd f = (KNe, f, []) := by kernel_rfl
theorem kn5 (mp : Value) (f : Nat → Int) : stepS mp KNe f = (KNe, f, []) := by kernel_rfl
set_option maxHeartbeats 8000000 in
set_option maxRecDepth 100000 in
theorem chipKnown_c (w : World) : Calls Try.prog 8 #[] w fun e w' => e = .returned (.bool true) ∧ Below w.heap.size w w' := by
  have HI : Hid (InsL (w.alloc (.cells #[.int .i64 39, .int .i64 0, .int .i64 0, .int .i64 0, .int .i64 259, .int .i64 0, .int .i64 40, .int .i64 0, .int .i64 0, .int .i64 0, .int .i64 260, .int .i64 0, .int .i64 44, .int .i64 0, .int .i64 0, .int .i64 0, .int .i64 9, .int .i64 0] 36)) (some ⟨w.heap.size, 0, none⟩) KN) := by
    intro k i hk
    have hb := Blk.new w 36 #[.int .i64 39, .int .i64 0, .int .i64 0, .int .i64 0, .int .i64 259, .int .i64 0, .int .i64 40, .int .i64 0, .int .i64 0, .int .i64 0, .int .i64 260, .int .i64 0, .int .i64 44, .int .i64 0, .int .i64 0, .int .i64 0, .int .i64 9, .int .i64 0]
    match k, hk with
    | 0, hk => simp [KN] at hk; subst hk; exact ⟨_, 0, rfl, hb.cell 0, hb.cell 1, hb.cell 2, hb.cell 3, hb.cell 4, hb.cell 5⟩
    | 1, hk => simp [KN] at hk; subst hk; exact ⟨_, 0, rfl, hb.cell 6, hb.cell 7, hb.cell 8, hb.cell 9, hb.cell 10, hb.cell 11⟩
    | 2, hk => simp [KN] at hk; subst hk; exact ⟨_, 0, rfl, hb.cell 12, hb.cell 13, hb.cell 14, hb.cell 15, hb.cell 16, hb.cell 17⟩
    | k + 3, hk => simp [KN] at hk
  have HLD := Lib.hid (load_c _ 8 _ 3 KN HI.out KN_right (by simp [KN]) (by unfold canLoad; decide))
  have HB0 : Hid (Below w.heap.size w (w.alloc (.cells #[.int .i64 39, .int .i64 0, .int .i64 0, .int .i64 0, .int .i64 259, .int .i64 0, .int .i64 40, .int .i64 0, .int .i64 0, .int .i64 0, .int .i64 260, .int .i64 0, .int .i64 44, .int .i64 0, .int .i64 0, .int .i64 0, .int .i64 9, .int .i64 0] 36))) := (Below.refl _ _).alloc (Nat.le_refl _) _
  have hKF : loadB (fun _ => 0) (8 : Int).toNat (flatE KN) (flatE KN).length = KNF := rfl
  have hK0 : KN.length = 3 := rfl
  rw [hKF, hK0] at HLD
  clear hKF hK0 HI
  go_enter Try.func8, Try.ntmps8
  go_wp2_with fail
  refine (HLD.out).mono ?_
  rintro e w1 ⟨m, g, rfl, hm, hm1, hg1, hb1⟩
  have HM1 := Lib.hid hm
  have HB1 := Lib.hid (HB0.out.trans (hb1.mono HB0.out.size))
  have HGS := Lib.hid (Nat.le_trans HB0.out.size hg1)
  clear hm hb1 HLD hm1 hg1
  go_wp2_with fail
  refine (chipNew_c w1).mono ?_
  rintro e w2 ⟨rfl, hc, hb2⟩
  have HC2 := Lib.hid hc
  have HM2 : Hid (MW w2 m g KNF) := HM1.out.only (S := fun _ => False) (Only.of_below hb2) id id
  have HB2 := Lib.hid (HB1.out.trans (hb2.mono HB1.out.size))
  have HPL := Lib.hid (show w.heap.size ≤ w1.heap.size from HB1.out.size)
  generalize w1.heap.size = pc at *
  clear hc hb2
  go_wp2_with fail
  refine (trNew_c w2).mono ?_
  rintro e w3 ⟨rfl, rfl⟩
  obtain ⟨w3, hw3⟩ : ∃ w3, w3 = w2.alloc (.cells #[.slice none 0 0] 76) := ⟨_, rfl⟩
  obtain ⟨tp, htp⟩ : ∃ tp, tp = w2.heap.size := ⟨_, rfl⟩
  have hT : Tr w3 tp none [] := by rw [hw3, htp]; exact Tr.new w2
  have hO3 : Below w2.heap.size w2 w3 := by rw [hw3]; exact (Below.refl _ _).alloc (Nat.le_refl _) _
  have HT3 := Lib.hid hT
  have HC3 : Hid (ChW w3 pc Ch0) := HC2.out.only (S := fun _ => False) (Only.of_below hO3) id
  have HM3 : Hid (MW w3 m g KNF) := HM2.out.only (S := fun _ => False) (Only.of_below hO3) id id
  have HB3 := Lib.hid (HB2.out.trans (hO3.mono HB2.out.size))
  have HTL := Lib.hid (show w.heap.size ≤ tp by rw [htp]; exact HB2.out.size)
  rw [← hw3, ← htp]
  clear hw3 htp hT hO3 HC2 HM2 HB2 HB0 HB1 HM1
  go_wp2_with fail
  refine (known_c w3).mono ?_
  rintro e w4 ⟨rfl, hb4⟩
  have HC4 : Hid (ChW w4 pc Ch0) := HC3.out.only (S := fun _ => False) (Only.of_below hb4) id
  have HM4 : Hid (MW w4 m g KNF) := HM3.out.only (S := fun _ => False) (Only.of_below hb4) id id
  have HT4 : Hid (Tr w4 tp none []) := HT3.out.keep (Only.of_below (S := fun _ => False) hb4) (fun _ _ => id)
  have HB4 := Lib.hid (HB3.out.trans (hb4.mono HB3.out.size))
  have HNT : Hid (pc ≠ tp) := Lib.hid (by obtain ⟨v, h1, _⟩ := HT4.out; exact HC4.out.1.ne h1 (by decide))
  have HMT : Hid (m ≠ tp ∧ g ≠ tp) := by
    obtain ⟨hb, cs, hc, _⟩ := HM4.out
    obtain ⟨v, h1, _⟩ := HT4.out
    exact ⟨hb.ne h1 (by decide), hc.ne h1 (by decide)⟩
  clear hb4 HC3 HM3 HT3 HB3
  have HAP := Lib.hid (HC4.out.apart HM4.out)
  have z0 := HC4.out.frozen 0
  have q0 := HC4.out.reg (k := 0) (by omega)
  have z1 := HC4.out.frozen 1
  have q1 := HC4.out.reg (k := 1) (by omega)
  have z13 := HC4.out.frozen 13
  have q13 := HC4.out.reg (k := 13) (by omega)
  have z14 := HC4.out.frozen 14
  have q14 := HC4.out.reg (k := 14) (by omega)
  have z15 := HC4.out.frozen 15
  have q15 := HC4.out.reg (k := 15) (by omega)
  have HC5 : Hid (ChW _ pc KN0) := Lib.hid (((((HC4.out.setReg (k := 0) (x := 7) (by omega) (by unfold U; omega)).setReg (k := 1) (x := 8) (by omega) (by unfold U; omega)).setReg (k := 13) (x := 262144) (by omega) (by unfold U; omega)).setReg (k := 14) (x := 13) (by omega) (by unfold U; omega)).setReg (k := 15) (x := 8) (by omega) (by unfold U; omega))
  have O5 := Lib.hid ((((((Only.refl (fun j => j = pc) w4).setCell (p := ⟨pc, 0, none⟩) (.inl rfl) (.int .u32 7)).setCell (p := ⟨pc, 1, none⟩) (.inl rfl) (.int .u32 8)).setCell (p := ⟨pc, 13, none⟩) (.inl rfl) (.int .u32 262144)).setCell (p := ⟨pc, 14, none⟩) (.inl rfl) (.int .u32 13)).setCell (p := ⟨pc, 15, none⟩) (.inl rfl) (.int .u32 8))
  go_wp2_with fail
  generalize (((((w4.setCell ⟨pc, 0, none⟩ (.int .u32 7)).setCell ⟨pc, 1, none⟩ (.int .u32 8)).setCell ⟨pc, 13, none⟩ (.int .u32 262144)).setCell ⟨pc, 14, none⟩ (.int .u32 13)).setCell ⟨pc, 15, none⟩ (.int .u32 8)) = w5 at *
  have HM5 := Lib.hid (HM4.out.only O5.out (fun e => HAP.out.1 e.symm) (fun e => HAP.out.2 e.symm))
  have HT5 : Hid (Tr w5 tp none []) := HT4.out.keep O5.out (fun j hj e => by rcases hj with h | h <;> first | exact HNT.out (e.symm.trans h) | cases h)
  have HB5 : Hid (Below w.heap.size w w5) := HB4.out.trans (O5.out.below HB4.out.size (fun j e => by rw [e]; exact HPL.out))
  have HP : Hid (∀ a, some (⟨tp, 0, none⟩ : Addr) = some a → ∃ tp, a = ⟨tp, 0, none⟩) := fun a e => ⟨tp, by injection e with e; exact e.symm⟩
  have HBO : Hid (∀ wq, Only (fun k => k = pc ∨ k = g ∨ TrS (some ⟨tp, 0, none⟩) none k) w5 wq → Below w.heap.size w wq) := fun wq o => HB5.out.trans (o.below HB5.out.size (fun j h => by
    rcases h with h | h | ⟨tp', h1, h2⟩ | ⟨_, h⟩
    · rw [h]; exact HPL.out
    · rw [h]; exact HGS.out
    · injection h1 with h1; injection h1 with h1; rw [h2, ← h1]; exact HTL.out
    · cases h))
  have HI5 : Hid (RInv pc m g (some ⟨tp, 0, none⟩) none [] w5 (KN0, KNF, []) w5) := ⟨HC5.out, HM5.out, none, .inr ⟨tp, rfl, HT5.out, .inl rfl⟩, Only.refl _ _⟩
  clear q0 z0 q1 z1 q13 z13 q14 z14 q15 z15 HC4 HM4 HT4 HB4 O5 HC5 HM5 HT5 HAP
  refine (HI5.out.step (mp := .pointer (some ⟨m, 0, none⟩)) rfl HP.out (by decide)).mono ?_
  rintro e w6 ⟨rfl, hr6⟩
  dsimp only at hr6 ⊢
  rw [kn1] at hr6 ⊢
  have HI6 : Hid (RInv pc m g (some ⟨tp, 0, none⟩) none [] w5 (KN1, KNF1, [⟨4, 8, 262132, 4⟩]) w6) := hr6
  clear hr6 HI5
  go_wp2_with fail
  refine (HI6.out.step (mp := .pointer (some ⟨m, 0, none⟩)) rfl HP.out (by simp)).mono ?_
  rintro e w7 ⟨rfl, hr7⟩
  dsimp only at hr7 ⊢
  rw [kn2] at hr7 ⊢
  have HI7 : Hid (RInv pc m g (some ⟨tp, 0, none⟩) none [] w5 (KN2, KNF1, [⟨4, 8, 262132, 4⟩, ⟨4, 10, 262132, 6⟩]) w7) := hr7
  clear hr7 HI6
  obtain ⟨hc7, hm7, tg7, ht7, ho7⟩ := HI7.out
  have HT7 : Hid (Tr w7 tp tg7 [⟨4, 8, 262132, 4⟩, ⟨4, 10, 262132, 6⟩] ∧ (tg7 = none ∨ ∃ k, tg7 = some k ∧ w5.heap.size ≤ k)) := by
    rcases ht7 with ⟨h, _⟩ | ⟨tp', h1, h2, h3⟩
    · cases h
    · injection h1 with h1; injection h1 with h1; subst h1; exact ⟨h2, h3⟩
  have HC7 := Lib.hid hc7; have HM7 := Lib.hid hm7; have HO7 := Lib.hid ho7
  clear hc7 hm7 ht7 ho7 HI7
  go_wp2_with fail
  refine (trAt_c w7 tp tg7 _ HT7.out.1 0 (by decide)).mono ?_
  rintro e w8 ⟨rfl, hb8⟩
  have HT8 := Lib.hid (HT7.out.1.keep (Only.of_below (S := fun _ => False) hb8) (fun _ _ => id))
  have HO8 := Lib.hid (Only.of_below (S := fun _ => False) hb8)
  clear hb8
  dsimp only [Ev.val, List.getElem_cons_zero]
  go_wp2_with fail
  have HE8 := Lib.hid (Blk.new w8 51 #[.int .i64 4, .int .i64 8, .int .i64 262132, .int .i64 4])
  have hoE := (Only.refl (fun _ => False) w8).alloc (.cells #[.int .i64 4, .int .i64 8, .int .i64 262132, .int .i64 4] 51)
  have hle8 : w7.heap.size ≤ w8.heap.size := HO8.out.size
  obtain ⟨wE, hwE⟩ : ∃ wE, wE = w8.alloc (.cells #[.int .i64 4, .int .i64 8, .int .i64 262132, .int .i64 4] 51) := ⟨_, rfl⟩
  obtain ⟨ep, hep⟩ : ∃ ep, ep = w8.heap.size := ⟨_, rfl⟩
  rw [← hwE, ← hep] at HE8 ⊢
  rw [← hwE] at hoE
  rw [← hep] at hle8
  have HOE : Hid (Only (fun _ => False) w7 wE) := HO8.out.trans hoE (fun _ _ h => h)
  have HTE := Lib.hid (HT7.out.1.keep HOE.out (fun _ _ => id))
  clear hwE hep hoE HT8 HO8
  refine (trAt_c wE tp tg7 _ HTE.out 1 (by decide)).mono ?_
  rintro e w9 ⟨rfl, hb9⟩
  have HO9 : Hid (Only (fun _ => False) wE w9) := Only.of_below (S := fun _ => False) hb9
  clear hb9
  dsimp only [Ev.val, List.getElem_cons_zero, List.getElem_cons_succ]
  go_upto_region 15 with (fail)
  have hoF := (Only.refl (fun _ => False) w9).alloc (.cells #[.int .i64 4, .int .i64 10, .int .i64 262132, .int .i64 6] 51)
  have HF9 := Lib.hid (Blk.new w9 51 #[.int .i64 4, .int .i64 10, .int .i64 262132, .int .i64 6])
  have hle9 : w7.heap.size ≤ w9.heap.size := Nat.le_trans HOE.out.size HO9.out.size
  obtain ⟨wF, hwF⟩ : ∃ wF, wF = w9.alloc (.cells #[.int .i64 4, .int .i64 10, .int .i64 262132, .int .i64 6] 51) := ⟨_, rfl⟩
  obtain ⟨fp, hfp⟩ : ∃ fp, fp = w9.heap.size := ⟨_, rfl⟩
  rw [← hwF, ← hfp] at HF9 ⊢
  rw [← hwF] at hoF
  rw [← hfp] at hle9
  have HEF : Hid (Blk wF ep 51 #[.int .i64 4, .int .i64 8, .int .i64 262132, .int .i64 4]) := HE8.out.only (HO9.out.trans hoF (fun _ _ h => h)) id
  have HOF : Hid (Only (fun _ => False) w7 wF) := HOE.out.trans (HO9.out.trans hoF (fun _ _ h => h)) (fun _ _ h => h)
  have HTF := Lib.hid (HT7.out.1.keep HOF.out (fun _ _ => id))
  have HCF : Hid (ChW wF pc KN2) := HC7.out.only HOF.out id
  have HMF : Hid (MW wF m g KNF1) := HM7.out.only HOF.out id id
  have HPF : Hid (pc < w7.heap.size ∧ g < w7.heap.size ∧ ∀ k, TrS (some ⟨tp, 0, none⟩) tg7 k → k < w7.heap.size) := by
    refine ⟨HC7.out.1.lt, ?_, fun k hk => HT7.out.1.lt k ?_⟩
    · obtain ⟨_, cs, hc, _⟩ := HM7.out
      exact hc.lt
    · rcases hk with ⟨tp', h1, h2⟩ | ⟨_, h⟩
      · injection h1 with h1; injection h1 with h1; exact .inl (by rw [h2, ← h1])
      · exact .inr h
  clear hwF hfp hoF HO9 HE8 HTE HOE HC7 HM7
  have q2 : wF.cell? ⟨pc, 2, none⟩ = some (.int .u32 7) := HCF.out.reg (k := 2) (by omega)
  have q13 : wF.cell? ⟨pc, 13, none⟩ = some (.int .u32 262140) := HCF.out.reg (k := 13) (by omega)
  have q15 : wF.cell? ⟨pc, 15, none⟩ = some (.int .u32 8) := HCF.out.reg (k := 15) (by omega)
  have z15 := HCF.out.frozen 15
  have HCG : Hid (ChW (wF.setCell ⟨pc, 15, none⟩ (.int .u32 12)) pc KN3) := HCF.out.setReg (k := 15) (x := 12) (by omega) (by unfold U; omega)
  have OG := Lib.hid ((Only.refl (fun j => j = pc) wF).setCell (p := ⟨pc, 15, none⟩) (.inl rfl) (.int .u32 12))
  have HAF := Lib.hid (HCF.out.apart HMF.out)
  have hle8' := hle8
  go_wp2_with fail
  generalize wF.setCell ⟨pc, 15, none⟩ (.int .u32 12) = wG at *
  have hpe : pc ≠ ep := by have := HPF.out.1; omega
  have hpf : pc ≠ fp := by have := HPF.out.1; omega
  have HMG := Lib.hid (HMF.out.only OG.out (fun e => HAF.out.1 e.symm) (fun e => HAF.out.2 e.symm))
  have HTG : Hid (Tr wG tp tg7 _) := HTF.out.keep OG.out (fun k hk e => by
    have e' : k = pc := e
    subst e'
    exact HTF.out.far HCF.out.1 (by decide) (by decide) hk)
  have HEG := Lib.hid (HEF.out.only OG.out (fun e => hpe e.symm))
  have HFG := Lib.hid (HF9.out.only OG.out (fun e => hpf e.symm))
  have HBG : Hid (Below w.heap.size w wG) := ((HBO.out _ HO7.out).trans (HOF.out.below (HBO.out _ HO7.out).size (fun _ h => h.elim))).trans (OG.out.below (Nat.le_trans (HBO.out _ HO7.out).size HOF.out.size) (fun j e => by rw [e]; exact HPL.out))
  have HTGS : Hid (∀ k, TrS (some ⟨tp, 0, none⟩) tg7 k → w.heap.size ≤ k) := fun k hk => by
    rcases hk with ⟨tp', h1, h2⟩ | ⟨_, h⟩
    · injection h1 with h1; injection h1 with h1; rw [h2, ← h1]; exact HTL.out
    · rcases HT7.out.2 with h' | ⟨k', h', h''⟩
      · rw [h'] at h; cases h
      · rw [h'] at h; injection h with h; subst h; exact Nat.le_trans HB5.out.size h''
  have HPG := Lib.hid HAF.out.2
  have HSG : Hid (w7.heap.size ≤ wG.heap.size) := Nat.le_trans HOF.out.size OG.out.size
  clear q2 q13 q15 z15 HCF HMF HTF HEF HF9 OG HAF
  refine (run_c wG pc m g (some ⟨tp, 0, none⟩) tg7 KN3 KNF1 _ 9 HCG.out HMG.out (fun tp' e => by injection e with e; injection e with e; subst e; exact HTG.out) HP.out (by simp)).mono ?_
  rintro e w10 ⟨rfl, hc10, hm10, tg10, ht10, ho10⟩
  rw [kn3] at hc10 ⊢
  have HL10 : Hid ((runUp (.pointer (some ⟨m, 0, none⟩)) KN3 KNF1 9).2.2.length ≤ 9) := runUp_len _ _ _ 9
  have HT10 : Hid (Tr w10 tp tg10 ([⟨4, 8, 262132, 4⟩, ⟨4, 10, 262132, 6⟩] ++ (runUp (.pointer (some ⟨m, 0, none⟩)) KN3 KNF1 9).2.2) ∧ (tg10 = tg7 ∨ ∃ k, tg10 = some k ∧ wG.heap.size ≤ k)) := by
    rcases ht10 with ⟨h, _⟩ | ⟨tp', h1, h2, h3⟩
    · cases h
    · injection h1 with h1; injection h1 with h1; subst h1; exact ⟨h2, h3⟩
  have HC10 := Lib.hid hc10; have HM10 := Lib.hid hm10; have HO10 := Lib.hid ho10
  clear hc10 hm10 ht10 ho10
  have HEN : Hid (∀ j, (j = ep ∨ j = fp) → ¬ (j = pc ∨ j = g ∨ TrS (some ⟨tp, 0, none⟩) tg7 j)) := fun j hj h => by
    have h1 := HPF.out.1
    have h2 := HPF.out.2.1
    have hj' : w7.heap.size ≤ j := by rcases hj with rfl | rfl <;> assumption
    rcases h with h | h | h
    · omega
    · omega
    · have := HPF.out.2.2 j h; omega
  have HE10 := Lib.hid (HEG.out.only HO10.out (HEN.out ep (.inl rfl)))
  have HF10 := Lib.hid (HFG.out.only HO10.out (HEN.out fp (.inr rfl)))
  have HB10 : Hid (Below w.heap.size w w10) := HBG.out.trans (HO10.out.below HBG.out.size (fun j h => by
    rcases h with h | h | h
    · rw [h]; exact HPL.out
    · rw [h]; exact HGS.out
    · exact HTGS.out j h))
  have HLG := Lib.hid (show ep < wG.heap.size ∧ fp < wG.heap.size from ⟨HEG.out.lt, HFG.out.lt⟩)
  clear HEG HFG HO10 HTG HCG HMG HEN
  generalize (runUp (.pointer (some ⟨m, 0, none⟩)) KN3 KNF1 9).2.2 = l10 at *
  generalize (runUp (.pointer (some ⟨m, 0, none⟩)) KN3 KNF1 9).2.1 = f10 at *
  simp only [show KN4.st = 1 from rfl]
  go_wp2_with fail
  refine (chipNew_c w10).mono ?_
  rintro e w11 ⟨rfl, hd11, hb11⟩
  have HD11 := Lib.hid hd11
  have HO11 : Hid (Only (fun _ => False) w10 w11) := Only.of_below (S := fun _ => False) hb11
  have hpd : w10.heap.size = w10.heap.size := rfl
  have HP10 := Lib.hid (show pc < w10.heap.size ∧ g < w10.heap.size ∧ ep < w10.heap.size ∧ fp < w10.heap.size ∧ w.heap.size ≤ w10.heap.size from ⟨HC10.out.1.lt, by obtain ⟨_, cs, hc, _⟩ := HM10.out; exact hc.lt, HE10.out.lt, HF10.out.lt, HB10.out.size⟩)
  clear hd11 hb11 hpd
  obtain ⟨pd, hpd⟩ : ∃ pd, pd = w10.heap.size := ⟨_, rfl⟩
  rw [← hpd] at HD11 HP10 ⊢
  have HB11 : Hid (Below w.heap.size w w11) := HB10.out.trans (HO11.out.below HB10.out.size (fun _ h => h.elim))
  have HC11 := Lib.hid (HC10.out.only HO11.out id)
  have HM11 := Lib.hid (HM10.out.only HO11.out id id)
  have HE11 := Lib.hid (HE10.out.only HO11.out id)
  have HF11 := Lib.hid (HF10.out.only HO11.out id)
  have HT11 := Lib.hid (HT10.out.1.keep HO11.out (fun _ _ => id))
  have HAD := Lib.hid (HD11.out.apart HM11.out)
  clear hpd HC10 HM10 HE10 HF10 HO11 HB10
  have z15 := HD11.out.frozen 15
  have q15 := HD11.out.reg (k := 15) (by omega)
  have HD12 : Hid (ChW (w11.setCell ⟨pd, 15, none⟩ (.int .u32 131072)) pd KNd) := HD11.out.setReg (k := 15) (x := 131072) (by omega) (by unfold U; omega)
  have O12 := Lib.hid ((Only.refl (fun j => j = pd) w11).setCell (p := ⟨pd, 15, none⟩) (.inl rfl) (.int .u32 131072))
  go_wp2_with fail
  generalize w11.setCell ⟨pd, 15, none⟩ (.int .u32 131072) = w12 at *
  have hp1 : pc ≠ pd := by have := HP10.out.1; omega
  have hp2 : ep ≠ pd := by have := HP10.out.2.2.1; omega
  have hp3 : fp ≠ pd := by have := HP10.out.2.2.2.1; omega
  have HM12 := Lib.hid (HM11.out.only O12.out (fun e => HAD.out.1 e.symm) (fun e => HAD.out.2 e.symm))
  have HT12 := Lib.hid (HT11.out.keep O12.out (fun k hk e => by
    have e' : k = pd := e
    subst e'
    exact HT11.out.far HD11.out.1 (by decide) (by decide) hk))
  have HC12 := Lib.hid (HC11.out.only O12.out hp1)
  have HE12 := Lib.hid (HE11.out.only O12.out hp2)
  have HF12 := Lib.hid (HF11.out.only O12.out hp3)
  have HB12 : Hid (Below w.heap.size w w12) := HB11.out.trans (O12.out.below HB11.out.size (fun j e => by rw [e]; exact HP10.out.2.2.2.2))
  clear q15 z15 HD11 HM11 HT11 HC11 HE11 HF11 HB11 O12
  refine (step_c w12 pd m g (some ⟨tp, 0, none⟩) tg10 KNd f10 _ HD12.out HM12.out (fun tp' e => by injection e with e; injection e with e; subst e; exact HT12.out) HP.out (by have := HL10.out; simp; omega)).mono ?_
  rintro e w13 ⟨rfl, hd13, hm13, tg13, ht13, ho13⟩
  rw [kn4] at hd13 hm13 ht13 ⊢
  have HN13 : Hid (∀ j, (j = ep ∨ j = fp ∨ j = pc) → ¬ (j = pd ∨ j = g ∨ TrS (some ⟨tp, 0, none⟩) tg10 j)) := fun j hj h => by
    have h1 := HPF.out.1
    have h2 := HPF.out.2.1
    have h3 := HPF.out.2.2 tp (.inl ⟨tp, rfl, rfl⟩)
    have h4 := HSG.out
    have h5 := HLG.out.1
    have h6 := HLG.out.2
    rcases h with h | h | ⟨tp', g1, g2⟩ | ⟨g1, g2⟩
    · rcases hj with rfl | rfl | rfl
      · exact hp2 h
      · exact hp3 h
      · exact hp1 h
    · rcases hj with rfl | rfl | rfl
      · omega
      · omega
      · exact HPG.out h
    · injection g1 with g1; injection g1 with g1
      rcases hj with rfl | rfl | rfl
      · omega
      · omega
      · exact HNT.out (by omega)
    · rcases HT10.out.2 with g3 | ⟨k, g3, g4⟩
      · rw [g3] at g2
        have h7 := HPF.out.2.2 j (.inr ⟨by simp, g2⟩)
        rcases hj with rfl | rfl | rfl
        · omega
        · omega
        · exact HT12.out.far HC12.out.1 (by decide) (by decide) (.inr (g3.trans g2))
      · rw [g3] at g2
        injection g2 with g2
        rcases hj with rfl | rfl | rfl
        · omega
        · omega
        · omega
  have HTB : Hid (∀ j, TrS (some ⟨tp, 0, none⟩) tg10 j → w.heap.size ≤ j) := fun j h => by
    rcases h with ⟨tp', g1, g2⟩ | ⟨g1, g2⟩
    · injection g1 with g1; injection g1 with g1; rw [g2, ← g1]; exact HTL.out
    · rcases HT10.out.2 with g3 | ⟨k, g3, g4⟩
      · rw [g3] at g2; exact HTGS.out j (.inr ⟨by simp, g2⟩)
      · rw [g3] at g2; injection g2 with g2; subst g2; exact Nat.le_trans HBG.out.size g4
  have HT13 : Hid (Tr w13 tp tg13 ([⟨4, 8, 262132, 4⟩, ⟨4, 10, 262132, 6⟩] ++ l10)) := by
    rcases ht13 with ⟨h, _⟩ | ⟨tp', h1, h2, h3⟩
    · cases h
    · injection h1 with h1; injection h1 with h1; subst h1; rw [List.append_nil] at h2; exact h2
  have HG13 : Hid (tg13 = tg10 ∨ ∃ k, tg13 = some k ∧ w12.heap.size ≤ k) := by
    rcases ht13 with ⟨h, _⟩ | ⟨tp', h1, h2, h3⟩
    · cases h
    · exact h3
  have HB13 : Hid (Below w.heap.size w w13) := HB12.out.trans (ho13.below HB12.out.size (fun j h => by
    rcases h with h | h | h
    · rw [h]; exact HP10.out.2.2.2.2
    · rw [h]; exact HGS.out
    · exact HTB.out j h))
  have HS12 := Lib.hid HB12.out.size
  have HC13 := Lib.hid (HC12.out.only ho13 (HN13.out pc (.inr (.inr rfl))))
  have e0 := HE12.out.only ho13 (HN13.out ep (.inl rfl))
  have f0 := HF12.out.only ho13 (HN13.out fp (.inr (.inl rfl)))
  have HD13 := Lib.hid hd13; have HM13 := Lib.hid hm13
  have e1 := e0.cell 0
  have e2 := e0.cell 1
  have e3 := e0.cell 2
  have e4 := e0.cell 3
  have f1 := f0.cell 0
  have f2 := f0.cell 1
  have f3 := f0.cell 2
  have f4 := f0.cell 3
  simp at e1 e2 e3 e4 f1 f2 f3 f4
  have q15 : w13.cell? ⟨pc, 15, none⟩ = some (.int .u32 14) := HC13.out.reg (k := 15) (by omega)
  have q21 : w13.cell? ⟨pc, 21, none⟩ = some (.int .i64 9) := HC13.out.rest.2.2.2.2.2.1
  have d15 : w13.cell? ⟨pd, 15, none⟩ = some (.int .u32 131072) := hd13.reg (k := 15) (by omega)
  simp only [show KNe.st = 2 from rfl]
  clear hd13 hm13 ht13 ho13 e0 f0 HC12 HE12 HF12 HD12 HM12 HT12 HB12
  go_wp2_with fail
  refine (step_c w13 pd m g (some ⟨tp, 0, none⟩) tg13 KNe f10 _ HD13.out HM13.out (fun tp' e => by injection e with e; injection e with e; subst e; exact HT13.out) HP.out (by have := HL10.out; simp; omega)).mono ?_
  rintro e w14 ⟨rfl, _, _, tg14, _, ho14⟩
  rw [kn5]
  have HB14 : Hid (Below w.heap.size w w14) := HB13.out.trans (ho14.below HB13.out.size (fun j h => by
    rcases h with h | h | ⟨tp', g1, g2⟩ | ⟨g1, g2⟩
    · rw [h]; exact HP10.out.2.2.2.2
    · rw [h]; exact HGS.out
    · injection g1 with g1; injection g1 with g1; rw [g2, ← g1]; exact HTL.out
    · rcases HG13.out with g3 | ⟨k, g3, g4⟩
      · rw [g3] at g2; exact HTB.out j (.inr ⟨by simp, g2⟩)
      · rw [g3] at g2; injection g2 with g2; subst g2; exact Nat.le_trans HS12.out g4))
  simp only [show KNe.st = 2 from rfl]
  clear ho14
  go_wp2_with fail
  go_ret
  exact ⟨rfl, HB14.out⟩
end Go.Proofs.Ytpihjhfaeloapaa
