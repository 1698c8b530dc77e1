/- ChipConds. PRINTED by gencc.py. -/
import Derived.Test.YtpihjhfaeloapaaCw
import Derived.Test.YtpihjhfaeloapaaView
import Derived.BigQuiet
import Derived.Deep.QuietTactic
namespace Go.Proofs.Ytpihjhfaeloapaa
open Go.RowKit On Th
def WT (a b : Int) : Array Value := #[.bool (a == b), .bool (a != b), .bool (decide (b ≤ a)), .bool (decide (a < b)), .bool (decide (wrap32 ((a - b) % 4294967296) < 0)), .bool (decide (0 ≤ wrap32 ((a - b) % 4294967296))), .bool false, .bool false, .bool (decide (b < a)), .bool (decide (a ≤ b)), .bool (decide (wrap32 b ≤ wrap32 a)), .bool (decide (wrap32 a < wrap32 b)), .bool (decide (wrap32 b < wrap32 a)), .bool (decide (wrap32 a ≤ wrap32 b))]
theorem WT_at (a b : Int) (kn : Nat) (ha : U a) (hb : U b) (hk : kn < 14) : ∃ t, (WT a b)[kn]? = some (.bool t) ∧ (kn ≠ 6 → kn ≠ 7 → t = wantC a b kn) := by
  have hab : U ((a - b) % 4294967296) := by unfold U; omega
  unfold WT
  rw [wrap32_sg ha, wrap32_sg hb, wrap32_sg hab]
  have hc : kn = 0 ∨ kn = 1 ∨ kn = 2 ∨ kn = 3 ∨ kn = 4 ∨ kn = 5 ∨ kn = 6 ∨ kn = 7 ∨ kn = 8 ∨ kn = 9 ∨ kn = 10 ∨ kn = 11 ∨ kn = 12 ∨ kn = 13 := by omega
  rcases hc with rfl | rfl | rfl | rfl | rfl | rfl | rfl | rfl | rfl | rfl | rfl | rfl | rfl | rfl
  all_goals first | exact ⟨_, rfl, fun h _ => absurd rfl h⟩ | exact ⟨_, rfl, fun _ h => absurd rfl h⟩ | skip
  all_goals
    refine ⟨_, rfl, fun _ _ => ?_⟩
    unfold wantC
    simp
    try (rw [Bool.eq_iff_iff]; simp)
set_option maxHeartbeats 8000000 in
set_option maxRecDepth 100000 in
theorem chipConds_no (w : World) (a b n k : Int) (ha : U a) (hb : U b) (hk0 : 0 ≤ k) (hk1 : k ≤ 13)
    (hp : Calls Try.prog 27 #[.int .i64 n, .int .i64 14] w fun e w' => e = .returned (.int .i64 k) ∧ w = w') :
    Calls Try.prog 4 #[.int .u32 a, .int .u32 b, .int .i64 n, .bool false] w fun e w' => e = .returned (.bool true) ∧ Below w.heap.size w w' := by
  have HI : Hid (InsL (w.alloc (.cells #[.int .i64 22, .int .i64 0, .int .i64 0, .int .i64 1, .int .i64 0, .int .i64 0, .int .i64 41, .int .i64 0, .int .i64 0, .int .i64 0, .int .i64 8, .int .i64 k] 36)) (some ⟨w.heap.size, 0, none⟩) (CD 22 k)) := by
    intro j i hk
    have hb := Blk.new w 36 #[.int .i64 22, .int .i64 0, .int .i64 0, .int .i64 1, .int .i64 0, .int .i64 0, .int .i64 41, .int .i64 0, .int .i64 0, .int .i64 0, .int .i64 8, .int .i64 k]
    match j, hk with
    | 0, hk => simp [CD] at hk; subst hk; exact ⟨_, 0, rfl, hb.cell 0, hb.cell 1, hb.cell 2, hb.cell 3, hb.cell 4, hb.cell 5⟩
    | 1, hk => simp [CD] at hk; subst hk; exact ⟨_, 0, rfl, hb.cell 6, hb.cell 7, hb.cell 8, hb.cell 9, hb.cell 10, hb.cell 11⟩
    | j + 2, hk => simp [CD] at hk
  have HLD := Lib.hid (load_c _ 0 _ 2 (CD 22 k) HI.out (CD_right 22 k (by decide) hk0 hk1) (by simp [CD]) (CD_len 22 k (by decide) hk0 hk1))
  have HB0 : Hid (Below w.heap.size w (w.alloc (.cells #[.int .i64 22, .int .i64 0, .int .i64 0, .int .i64 1, .int .i64 0, .int .i64 0, .int .i64 41, .int .i64 0, .int .i64 0, .int .i64 0, .int .i64 8, .int .i64 k] 36))) := (Below.refl _ _).alloc (Nat.le_refl _) _
  have hKF : loadB (fun _ => 0) (0 : Int).toNat (flatE (CD 22 k)) (flatE (CD 22 k)).length = CDF 22 k := rfl
  have hK0 : (CD 22 k).length = 2 := rfl
  rw [hKF, hK0] at HLD
  have HPK := Lib.hid hp
  have HA := Lib.hid ha; have HBb := Lib.hid hb; have HK0 := Lib.hid hk0; have HK1 := Lib.hid hk1
  clear hKF hK0 HI hp ha hb hk0 hk1
  go_enter Try.func4, Try.ntmps4
  go_wp2_with fail
  refine (HPK.out).mono ?_
  rintro e w' ⟨rfl, rfl⟩
  clear HPK
  go_wp2_with fail
  refine (HLD.out).mono ?_
  rintro e w1 ⟨m, g, rfl, hm, hm1, hg1, hb1⟩
  have HM1 := Lib.hid hm
  have HB1 := Lib.hid (HB0.out.trans (hb1.mono HB0.out.size))
  have HGS := Lib.hid (Nat.le_trans HB0.out.size hg1)
  clear hm hb1 HLD hm1 hg1
  go_wp2_with fail
  refine (chipNew_c w1).mono ?_
  rintro e w2 ⟨rfl, hc, hb2⟩
  have HC2 := Lib.hid hc
  have HM2 : Hid (MW w2 m g (CDF 22 k)) := HM1.out.only (S := fun _ => False) (Only.of_below hb2) id id
  have HB2 := Lib.hid (HB1.out.trans (hb2.mono HB1.out.size))
  have HPL := Lib.hid (show w.heap.size ≤ w1.heap.size from HB1.out.size)
  generalize w1.heap.size = pc at *
  clear hc hb2
  go_wp2_with fail
  refine (trNew_c w2).mono ?_
  rintro e w3 ⟨rfl, rfl⟩
  obtain ⟨w3, hw3⟩ : ∃ w3, w3 = w2.alloc (.cells #[.slice none 0 0] 76) := ⟨_, rfl⟩
  obtain ⟨tp, htp⟩ : ∃ tp, tp = w2.heap.size := ⟨_, rfl⟩
  have hT : Tr w3 tp none [] := by rw [hw3, htp]; exact Tr.new w2
  have hO3 : Below w2.heap.size w2 w3 := by rw [hw3]; exact (Below.refl _ _).alloc (Nat.le_refl _) _
  have HT3 := Lib.hid hT
  have HC3 : Hid (ChW w3 pc Ch0) := HC2.out.only (S := fun _ => False) (Only.of_below hO3) id
  have HM3 : Hid (MW w3 m g (CDF 22 k)) := HM2.out.only (S := fun _ => False) (Only.of_below hO3) id id
  have HB3 := Lib.hid (HB2.out.trans (hO3.mono HB2.out.size))
  have HTL := Lib.hid (show w.heap.size ≤ tp by rw [htp]; exact HB2.out.size)
  rw [← hw3, ← htp]
  clear hw3 htp hT hO3 HC2 HM2 HB2 HB0 HB1 HM1
  go_wp2_with fail
  refine (known_c w3).mono ?_
  rintro e w4 ⟨rfl, hb4⟩
  have HC4 : Hid (ChW w4 pc Ch0) := HC3.out.only (S := fun _ => False) (Only.of_below hb4) id
  have HM4 : Hid (MW w4 m g (CDF 22 k)) := HM3.out.only (S := fun _ => False) (Only.of_below hb4) id id
  have HT4 : Hid (Tr w4 tp none []) := HT3.out.keep (Only.of_below (S := fun _ => False) hb4) (fun _ _ => id)
  have HB4 := Lib.hid (HB3.out.trans (hb4.mono HB3.out.size))
  have HNT : Hid (pc ≠ tp) := Lib.hid (by obtain ⟨v, h1, _⟩ := HT4.out; exact HC4.out.1.ne h1 (by decide))
  have HMT : Hid (m ≠ tp ∧ g ≠ tp) := by
    obtain ⟨hb, cs, hc, _⟩ := HM4.out
    obtain ⟨v, h1, _⟩ := HT4.out
    exact ⟨hb.ne h1 (by decide), hc.ne h1 (by decide)⟩
  clear hb4 HC3 HM3 HT3 HB3
  have z0 := HC4.out.frozen 0
  have z1 := HC4.out.frozen 1
  have q0 := HC4.out.reg (k := 0) (by omega)
  have q1 := HC4.out.reg (k := 1) (by omega)
  have HC5 : Hid (ChW _ pc (CD0 a b)) := Lib.hid ((HC4.out.setReg (k := 0) (by omega) HA.out).setReg (k := 1) (by omega) HBb.out)
  have O5 := Lib.hid (((Only.refl (fun j => j = pc) w4).setCell (p := ⟨pc, 0, none⟩) (.inl rfl) (.int .u32 a)).setCell (p := ⟨pc, 1, none⟩) (.inl rfl) (.int .u32 b))
  have HAP := Lib.hid (HC4.out.apart HM4.out)
  go_wp2_with fail
  generalize (w4.setCell ⟨pc, 0, none⟩ (.int .u32 a)).setCell ⟨pc, 1, none⟩ (.int .u32 b) = w5 at *
  have HM5 := Lib.hid (HM4.out.only O5.out (fun e => HAP.out.1 e.symm) (fun e => HAP.out.2 e.symm))
  have HT5 : Hid (Tr w5 tp none []) := HT4.out.keep O5.out (fun j hj e => by rcases hj with h | h <;> first | exact HNT.out (e.symm.trans h) | cases h)
  have HB5 : Hid (Below w.heap.size w w5) := HB4.out.trans (O5.out.below HB4.out.size (fun j e => by rw [e]; exact HPL.out))
  clear q0 q1 z0 z1 HC4 HM4 HT4 HB4 O5
  refine (run_c w5 pc m g (some ⟨tp, 0, none⟩) none _ (CDF 22 k) [] 2 HC5.out HM5.out (fun tp' e => by injection e with e; injection e with e; subst e; exact HT5.out) (fun a e => ⟨tp, by injection e with e; exact e.symm⟩) (by decide)).mono ?_
  rintro e w6 ⟨rfl, hc6, _, _, _, o6⟩
  have HB6 : Hid (Below w.heap.size w w6) := HB5.out.trans (o6.below HB5.out.size (fun j h => by
    rcases h with h | h | ⟨tp', h1, h2⟩ | ⟨_, h⟩
    · rw [h]; exact HPL.out
    · rw [h]; exact HGS.out
    · injection h1 with h1; injection h1 with h1; rw [h2, ← h1]; exact HTL.out
    · cases h))
  have q15 := hc6.reg (k := 15) (by omega)
  rw [cd_run_22 _ a b k HK0.out HK1.out] at q15
  clear hc6 o6 HC5 HM5 HT5 HB5 HAP HNT HMT
  have HLW := Lib.hid (conds_law a b k HA.out HBb.out HK0.out HK1.out)
  generalize holdsS _ _ _ _ k = hd at *
  have HK := Lib.hid (show 0 ≤ k ∧ k ≤ 13 from ⟨HK0.out, HK1.out⟩)
  have HU := Lib.hid (show U a ∧ U b from ⟨HA.out, HBb.out⟩)
  clear HA HBb HK0 HK1
  obtain ⟨kn, rfl⟩ := Int.eq_ofNat_of_zero_le HK.out.1
  cases hd <;> simp only [Bool.false_eq_true, if_true, if_false] at q15
  all_goals
    go_upto_region 21 with (fail)
    have KB := Blk.new w6 60 (WT a b)
    obtain ⟨t, ht, htw⟩ := WT_at a b kn HU.out.1 HU.out.2 (by have := HK.out.2; omega)
    have hq := KB.cell kn
    rw [ht] at hq
    have HB7 : Hid (Below w.heap.size w (w6.alloc (.cells (WT a b) 60))) := HB6.out.alloc HB6.out.size _
    have hq15 := (Only.refl (fun _ => False) w6).alloc (.cells (WT a b) 60)
    have q15' : (w6.alloc (.cells (WT a b) 60)).cell? ⟨pc, 15, none⟩ = _ := (hq15.cell (World.block_lt_of_cell? _ _ q15) id).trans q15
    have hk14 : (kn : Int) < 14 := by have := HK.out.2; omega
    have hw7 : w6.alloc (.cells (WT a b) 60) = w6.alloc (.cells (WT a b) 60) := rfl
    unfold WT at hq hw7 q15' HB7
    obtain ⟨w7, e7⟩ : ∃ w7, w7 = w6.alloc (.cells #[.bool (a == b), .bool (a != b), .bool (decide (b ≤ a)), .bool (decide (a < b)), .bool (decide (wrap32 ((a - b) % 4294967296) < 0)), .bool (decide (0 ≤ wrap32 ((a - b) % 4294967296))), .bool false, .bool false, .bool (decide (b < a)), .bool (decide (a ≤ b)), .bool (decide (wrap32 b ≤ wrap32 a)), .bool (decide (wrap32 a < wrap32 b)), .bool (decide (wrap32 b < wrap32 a)), .bool (decide (wrap32 a ≤ wrap32 b))] 60) := ⟨_, rfl⟩
    rw [← e7] at hq q15' HB7 ⊢
    generalize w6.heap.size = gb at *
    have HTW := Lib.hid htw
    clear e7 hw7 hq15 KB ht htw q15
    by_cases h6 : kn = 6
    · subst h6
      go_wp2_with fail
      go_ret
      exact ⟨rfl, HB7.out⟩
    · by_cases h7 : kn = 7
      · subst h7
        go_wp2_with fail
        go_ret
        exact ⟨rfl, HB7.out⟩
      · obtain rfl : _ = t := (HLW.out (by omega) (by omega)).trans (HTW.out h6 h7).symm
        have e6 : ((kn : Int) == 6) = false := by simp; omega
        have e7 : ((kn : Int) == 7) = false := by simp; omega
        clear h6 h7
        go_wp2_with fail
        go_ret
        exact ⟨rfl, HB7.out⟩
set_option maxHeartbeats 8000000 in
set_option maxRecDepth 100000 in
theorem chipConds_yes (w : World) (a b n k : Int) (ha : U a) (hb : U b) (hk0 : 0 ≤ k) (hk1 : k ≤ 13)
    (hp : Calls Try.prog 27 #[.int .i64 n, .int .i64 14] w fun e w' => e = .returned (.int .i64 k) ∧ w = w') :
    Calls Try.prog 4 #[.int .u32 a, .int .u32 b, .int .i64 n, .bool true] w fun e w' => e = .returned (.bool true) ∧ Below w.heap.size w w' := by
  have HI : Hid (InsL (w.alloc (.cells #[.int .i64 23, .int .i64 0, .int .i64 0, .int .i64 1, .int .i64 0, .int .i64 0, .int .i64 41, .int .i64 0, .int .i64 0, .int .i64 0, .int .i64 8, .int .i64 k] 36)) (some ⟨w.heap.size, 0, none⟩) (CD 23 k)) := by
    intro j i hk
    have hb := Blk.new w 36 #[.int .i64 23, .int .i64 0, .int .i64 0, .int .i64 1, .int .i64 0, .int .i64 0, .int .i64 41, .int .i64 0, .int .i64 0, .int .i64 0, .int .i64 8, .int .i64 k]
    match j, hk with
    | 0, hk => simp [CD] at hk; subst hk; exact ⟨_, 0, rfl, hb.cell 0, hb.cell 1, hb.cell 2, hb.cell 3, hb.cell 4, hb.cell 5⟩
    | 1, hk => simp [CD] at hk; subst hk; exact ⟨_, 0, rfl, hb.cell 6, hb.cell 7, hb.cell 8, hb.cell 9, hb.cell 10, hb.cell 11⟩
    | j + 2, hk => simp [CD] at hk
  have HLD := Lib.hid (load_c _ 0 _ 2 (CD 23 k) HI.out (CD_right 23 k (by decide) hk0 hk1) (by simp [CD]) (CD_len 23 k (by decide) hk0 hk1))
  have HB0 : Hid (Below w.heap.size w (w.alloc (.cells #[.int .i64 23, .int .i64 0, .int .i64 0, .int .i64 1, .int .i64 0, .int .i64 0, .int .i64 41, .int .i64 0, .int .i64 0, .int .i64 0, .int .i64 8, .int .i64 k] 36))) := (Below.refl _ _).alloc (Nat.le_refl _) _
  have hKF : loadB (fun _ => 0) (0 : Int).toNat (flatE (CD 23 k)) (flatE (CD 23 k)).length = CDF 23 k := rfl
  have hK0 : (CD 23 k).length = 2 := rfl
  rw [hKF, hK0] at HLD
  have HPK := Lib.hid hp
  have HA := Lib.hid ha; have HBb := Lib.hid hb; have HK0 := Lib.hid hk0; have HK1 := Lib.hid hk1
  clear hKF hK0 HI hp ha hb hk0 hk1
  go_enter Try.func4, Try.ntmps4
  go_wp2_with fail
  refine (HPK.out).mono ?_
  rintro e w' ⟨rfl, rfl⟩
  clear HPK
  go_wp2_with fail
  refine (HLD.out).mono ?_
  rintro e w1 ⟨m, g, rfl, hm, hm1, hg1, hb1⟩
  have HM1 := Lib.hid hm
  have HB1 := Lib.hid (HB0.out.trans (hb1.mono HB0.out.size))
  have HGS := Lib.hid (Nat.le_trans HB0.out.size hg1)
  clear hm hb1 HLD hm1 hg1
  go_wp2_with fail
  refine (chipNew_c w1).mono ?_
  rintro e w2 ⟨rfl, hc, hb2⟩
  have HC2 := Lib.hid hc
  have HM2 : Hid (MW w2 m g (CDF 23 k)) := HM1.out.only (S := fun _ => False) (Only.of_below hb2) id id
  have HB2 := Lib.hid (HB1.out.trans (hb2.mono HB1.out.size))
  have HPL := Lib.hid (show w.heap.size ≤ w1.heap.size from HB1.out.size)
  generalize w1.heap.size = pc at *
  clear hc hb2
  go_wp2_with fail
  refine (trNew_c w2).mono ?_
  rintro e w3 ⟨rfl, rfl⟩
  obtain ⟨w3, hw3⟩ : ∃ w3, w3 = w2.alloc (.cells #[.slice none 0 0] 76) := ⟨_, rfl⟩
  obtain ⟨tp, htp⟩ : ∃ tp, tp = w2.heap.size := ⟨_, rfl⟩
  have hT : Tr w3 tp none [] := by rw [hw3, htp]; exact Tr.new w2
  have hO3 : Below w2.heap.size w2 w3 := by rw [hw3]; exact (Below.refl _ _).alloc (Nat.le_refl _) _
  have HT3 := Lib.hid hT
  have HC3 : Hid (ChW w3 pc Ch0) := HC2.out.only (S := fun _ => False) (Only.of_below hO3) id
  have HM3 : Hid (MW w3 m g (CDF 23 k)) := HM2.out.only (S := fun _ => False) (Only.of_below hO3) id id
  have HB3 := Lib.hid (HB2.out.trans (hO3.mono HB2.out.size))
  have HTL := Lib.hid (show w.heap.size ≤ tp by rw [htp]; exact HB2.out.size)
  rw [← hw3, ← htp]
  clear hw3 htp hT hO3 HC2 HM2 HB2 HB0 HB1 HM1
  go_wp2_with fail
  refine (known_c w3).mono ?_
  rintro e w4 ⟨rfl, hb4⟩
  have HC4 : Hid (ChW w4 pc Ch0) := HC3.out.only (S := fun _ => False) (Only.of_below hb4) id
  have HM4 : Hid (MW w4 m g (CDF 23 k)) := HM3.out.only (S := fun _ => False) (Only.of_below hb4) id id
  have HT4 : Hid (Tr w4 tp none []) := HT3.out.keep (Only.of_below (S := fun _ => False) hb4) (fun _ _ => id)
  have HB4 := Lib.hid (HB3.out.trans (hb4.mono HB3.out.size))
  have HNT : Hid (pc ≠ tp) := Lib.hid (by obtain ⟨v, h1, _⟩ := HT4.out; exact HC4.out.1.ne h1 (by decide))
  have HMT : Hid (m ≠ tp ∧ g ≠ tp) := by
    obtain ⟨hb, cs, hc, _⟩ := HM4.out
    obtain ⟨v, h1, _⟩ := HT4.out
    exact ⟨hb.ne h1 (by decide), hc.ne h1 (by decide)⟩
  clear hb4 HC3 HM3 HT3 HB3
  have z0 := HC4.out.frozen 0
  have z1 := HC4.out.frozen 1
  have q0 := HC4.out.reg (k := 0) (by omega)
  have q1 := HC4.out.reg (k := 1) (by omega)
  have HC5 : Hid (ChW _ pc (CD0 a b)) := Lib.hid ((HC4.out.setReg (k := 0) (by omega) HA.out).setReg (k := 1) (by omega) HBb.out)
  have O5 := Lib.hid (((Only.refl (fun j => j = pc) w4).setCell (p := ⟨pc, 0, none⟩) (.inl rfl) (.int .u32 a)).setCell (p := ⟨pc, 1, none⟩) (.inl rfl) (.int .u32 b))
  have HAP := Lib.hid (HC4.out.apart HM4.out)
  go_wp2_with fail
  generalize (w4.setCell ⟨pc, 0, none⟩ (.int .u32 a)).setCell ⟨pc, 1, none⟩ (.int .u32 b) = w5 at *
  have HM5 := Lib.hid (HM4.out.only O5.out (fun e => HAP.out.1 e.symm) (fun e => HAP.out.2 e.symm))
  have HT5 : Hid (Tr w5 tp none []) := HT4.out.keep O5.out (fun j hj e => by rcases hj with h | h <;> first | exact HNT.out (e.symm.trans h) | cases h)
  have HB5 : Hid (Below w.heap.size w w5) := HB4.out.trans (O5.out.below HB4.out.size (fun j e => by rw [e]; exact HPL.out))
  clear q0 q1 z0 z1 HC4 HM4 HT4 HB4 O5
  refine (run_c w5 pc m g (some ⟨tp, 0, none⟩) none _ (CDF 23 k) [] 2 HC5.out HM5.out (fun tp' e => by injection e with e; injection e with e; subst e; exact HT5.out) (fun a e => ⟨tp, by injection e with e; exact e.symm⟩) (by decide)).mono ?_
  rintro e w6 ⟨rfl, hc6, _, _, _, o6⟩
  have HB6 : Hid (Below w.heap.size w w6) := HB5.out.trans (o6.below HB5.out.size (fun j h => by
    rcases h with h | h | ⟨tp', h1, h2⟩ | ⟨_, h⟩
    · rw [h]; exact HPL.out
    · rw [h]; exact HGS.out
    · injection h1 with h1; injection h1 with h1; rw [h2, ← h1]; exact HTL.out
    · cases h))
  have q15 := hc6.reg (k := 15) (by omega)
  rw [cd_run_23 _ a b k HK0.out HK1.out] at q15
  clear hc6 o6 HC5 HM5 HT5 HB5 HAP HNT HMT
  have HLW := Lib.hid (zero_law a b k (sumX a b false / 2147483648 == 1) ((a + b + cb false) / 4294967296 == 1) (vS a b (sumX a b false)))
  generalize holdsS _ _ _ _ k = hd at *
  have HK := Lib.hid (show 0 ≤ k ∧ k ≤ 13 from ⟨HK0.out, HK1.out⟩)
  have HU := Lib.hid (show U a ∧ U b from ⟨HA.out, HBb.out⟩)
  clear HA HBb HK0 HK1
  obtain ⟨kn, rfl⟩ := Int.eq_ofNat_of_zero_le HK.out.1
  cases hd <;> simp only [Bool.false_eq_true, if_true, if_false] at q15
  all_goals
    by_cases h0 : kn = 0
    · subst h0
      go_wp2_with fail
      go_ret
      refine ⟨?_, HB6.out⟩
      have hz := HLW.out (.inl rfl)
      simp at hz
      simp [hz]
    · by_cases h1 : kn = 1
      · subst h1
        go_wp2_with fail
        go_ret
        refine ⟨?_, HB6.out⟩
        have hz := HLW.out (.inr rfl)
        simp at hz
        simp [hz]
      · have e0 : ((kn : Int) == 0) = false := by simp [h0]
        have e1 : ((kn : Int) == 1) = false := by simp; omega
        clear h0 h1
        go_wp2_with fail
        go_ret
        exact ⟨rfl, HB6.out⟩
theorem chipConds_top (v0 v1 v2 v3 : Value) (w : World) (u0 : Vw.Arg Try.prog w 41 v0) (u1 : Vw.Arg Try.prog w 41 v1) (u2 : Vw.Arg Try.prog w 3 v2) (u3 : Vw.Arg Try.prog w 4 v3) :
    Calls Try.prog 4 #[v0, v1, v2, v3] w fun e w' => e = .returned (.bool true) ∧ Below w.heap.size w w' := by
  obtain ⟨a, rfl, ha⟩ := u0.int Try.underlying41
  obtain ⟨b, rfl, hb⟩ := u1.int Try.underlying41
  obtain ⟨n, rfl, _⟩ := u2.int Try.underlying3
  obtain ⟨sum, rfl⟩ := u3.bool Try.underlying4
  simp [Lit.wf, IntKind.min, IntKind.max, IntKind.signed, IntKind.bits] at ha hb
  have ha' : U a := by unfold U; omega
  have hb' : U b := by unfold U; omega
  cases sum
  · exact chipConds_no w a b n (n % 14) ha' hb' (by omega) (by omega) (pickN n 14 (by decide) (by decide) w)
  · exact chipConds_yes w a b n (n % 14) ha' hb' (by omega) (by omega) (pickN n 14 (by decide) (by decide) w)
end Go.Proofs.Ytpihjhfaeloapaa
