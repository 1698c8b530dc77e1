/- ChipStacks. PRINTED by gencj.py. -/
import Derived.Test.YtpihjhfaeloapaaQt
import Derived.Test.YtpihjhfaeloapaaView
import Derived.BigRegion
namespace Go.Proofs.Ytpihjhfaeloapaa
open Go.RowKit On Th
theorem okWide_arr {P : Program} {w : World} {r : Reach} {base : Nat} {t : TypeId} {v : Value} {n : Nat} {e : TypeId} (ht : P.underlying t = some (.array n e)) (h : Value.okWide P w r base t v) : ∃ cs, v = .agg cs ∧ cs.size = P.cellsOf t := by
  simp only [Value.okWide, ht] at h
  obtain ⟨cs, h1, h2, _⟩ := h
  exact ⟨cs, h1, h2⟩
theorem arg_arr {P : Program} {w : World} {t : TypeId} {v : Value} {n : Nat} {e : TypeId} (hu : P.underlying t = some (.array n e)) (h : Vw.Arg P w t v) : ∃ cs, v = .agg cs ∧ cs.size = P.cellsOf t ∧ ∀ i, i < n → Vw.Viewed P w e ((cs.toList.drop (i * P.cellsOf e)).take (P.cellsOf e)) := by
  obtain ⟨h1, b, h2⟩ := h
  obtain ⟨cs, rfl, hsz⟩ := okWide_arr hu h2
  exact ⟨cs, rfl, hsz, (Vw.viewed_array hu h1).2⟩
theorem cells_u32a : Try.prog.cellsOf 41 = 1 := by kernel_rfl
theorem cells_8 : Try.prog.cellsOf 65 = 8 := by kernel_rfl
theorem und_8 : Try.prog.underlying 65 = some (.array 8 41) := by kernel_rfl
theorem arg_eight {w : World} {v : Value} (u : Vw.Arg Try.prog w 65 v) : ∃ (cs : Array Value) (x : Nat → Int), v = .agg cs ∧ cs.size = 8 ∧ ∀ j, j < 8 → cs[j]? = some (.int .u32 (x j)) ∧ U (x j) := by
  obtain ⟨cs, rfl, hsz, h3⟩ := arg_arr und_8 u
  rw [cells_8] at hsz
  have h4 : ∀ j, j < 8 → ∃ y, cs[j]? = some (.int .u32 y) ∧ U y := fun j hj => by
    have h5 := h3 j hj
    rw [cells_u32a, Nat.mul_one] at h5
    obtain ⟨y, e, hw⟩ := Vw.viewed_int Try.underlying41 h5
    refine ⟨y, ?_, ?_⟩
    · have h6 := congrArg (fun q => q[0]?) e
      simp only [List.getElem?_take, List.getElem?_drop] at h6
      simpa using h6
    · simp [Lit.wf, IntKind.min, IntKind.max, IntKind.signed, IntKind.bits] at hw
      unfold U; omega
  refine ⟨cs, fun j => if h : j < 8 then (h4 j h).choose else 0, rfl, hsz, fun j hj => ?_⟩
  have e : (if h : j < 8 then (h4 j h).choose else 0) = (h4 j hj).choose := dif_pos hj
  show cs[j]? = some (.int .u32 (if h : j < 8 then (h4 j h).choose else 0)) ∧ U (if h : j < 8 then (h4 j h).choose else 0)
  rw [e]
  exact (h4 j hj).choose_spec
/-- registers set one by one -/
def regUp (R : List Int) (f : Nat → Int) : Nat → List Int
  | 0 => R
  | k + 1 => (regUp R f k).set k (f k)
theorem regUp_len (R : List Int) (f : Nat → Int) (k : Nat) : (regUp R f k).length = R.length := by
  induction k with
  | zero => rfl
  | succ k ih => unfold regUp; rw [List.length_set, ih]
theorem regUp_in {R : List Int} {f : Nat → Int} {k j : Nat} (h : j < k) (hl : k ≤ R.length) : (regUp R f k).getD j 0 = f j := by
  induction k with
  | zero => omega
  | succ k ih =>
    unfold regUp
    by_cases e : j = k
    · subst e; rw [getD_set_eq _ (by rw [regUp_len]; omega)]
    · rw [getD_set_ne _ (by omega)]; exact ih (by omega) (by omega)
theorem regUp_out {R : List Int} {f : Nat → Int} {k j : Nat} (h : k ≤ j) : (regUp R f k).getD j 0 = R.getD j 0 := by
  induction k with
  | zero => rfl
  | succ k ih => unfold regUp; rw [getD_set_ne _ (by omega)]; exact ih (by omega)
def SR0 (base : Int) : List Int := [0, 0, 0, 0, 0, 0, 0, 0, 0, 0, 0, 0, 0, base, 0, 0]
def SC (R : List Int) (st num cyc : Int) : Ch := ⟨R, false, false, false, false, st, num, cyc⟩
/-- the registers behind it all -/
theorem sk_final (l b base : Int) (R1 R2 : List Int) (x y : Nat → Int) (L2 : R2.length = 16) (hx : ∀ j, j < 8 → R1.getD j 0 = x j) (hy : ∀ j, j < 8 → R2.getD j 0 = y j) (i : Nat) (hi : i < 8) :
    (((setUp (R2.set 15 6) (bitsTo l 8) (fun k => ((R1.set 15 2).set 13 b).getD ((bitsTo l 8).getD k 0).toNat 0) (bitsTo l 8).length).set 13 base).set 15 8).getD i 0 = if l / 2 ^ i % 2 = 1 then x i else y i := by
  rw [getD_set_ne _ (by omega), getD_set_ne _ (by omega)]
  have hs := bitsTo_sorted l 8
  have hm := bitsTo_iff l 8
  generalize bitsTo l 8 = L at *
  have hnn : ∀ k, k < L.length → 0 ≤ L.getD k 0 := fun k hk => by
    rw [List.getD_eq_getElem?_getD, List.getElem?_eq_getElem hk]
    obtain ⟨j, _, h, _⟩ := (hm L[k]).mp (List.getElem_mem hk)
    show 0 ≤ L[k]
    omega
  have hlt : ∀ k j, k < j → j < L.length → L.getD k 0 < L.getD j 0 := fun k j h1 h2 => by
    rw [List.getD_eq_getElem?_getD, List.getD_eq_getElem?_getD, List.getElem?_eq_getElem h2, List.getElem?_eq_getElem (by omega : k < L.length)]
    exact List.pairwise_iff_getElem.mp hs k j (by omega) h2 h1
  by_cases hb : l / 2 ^ i % 2 = 1
  · rw [if_pos hb]
    obtain ⟨k, hk, he⟩ := List.getElem_of_mem ((hm (i : Int)).mpr ⟨i, hi, rfl, hb⟩)
    have he' : L.getD k 0 = i := by rw [List.getD_eq_getElem?_getD, List.getElem?_eq_getElem hk]; exact he
    rw [setUp_in hk (by rw [he']; rfl) (by rw [List.length_set, L2]; omega) (fun j hj hjk => by
      have h1 := hnn j hj
      rcases Nat.lt_or_gt_of_ne hjk with h | h
      · have := hlt j k h hk; omega
      · have := hlt k j h hj; omega)]
    rw [he', Int.toNat_natCast, getD_set_ne _ (by omega), getD_set_ne _ (by omega)]
    exact hx i hi
  · rw [if_neg hb, setUp_out (fun k hk => ?_), getD_set_ne _ (by omega)]
    · exact hy i hi
    · intro e
      have h1 := hnn k hk
      have h2 : L.getD k 0 ∈ L := by rw [List.getD_eq_getElem?_getD, List.getElem?_eq_getElem hk]; exact List.getElem_mem hk
      obtain ⟨j, _, h3, h4⟩ := (hm _).mp h2
      have : j = i := by omega
      subst this
      exact hb h4
theorem and1_255 (l : Int) (h0 : 0 ≤ l) (h1 : l ≤ 255) (k : Nat) : bits .and .i64 (l / 2 ^ k) 1 = l / 2 ^ k % 2 := by
  have hq : 0 ≤ l / 2 ^ k := Int.ediv_nonneg h0 (Int.le_of_lt (Int.pow_pos (by decide)))
  have hq2 : l / 2 ^ k ≤ l := Int.ediv_le_self _ h0
  generalize l / 2 ^ k = q at *
  obtain ⟨n, rfl⟩ : ∃ n : Nat, q = n := ⟨q.toNat, by omega⟩
  exact and1_i64 n (by omega)
set_option maxHeartbeats 8000000 in
set_option maxRecDepth 100000 in
theorem chipStacks_c (w : World) (z l q a : Int) (cs : Array Value) (x : Nat → Int) (hx : ∀ j, j < 8 → cs[j]? = some (.int .u32 (x j)) ∧ U (x j)) (hl0 : 1 ≤ l) (hl1 : l ≤ 255) (hq0 : 0 ≤ q) (hq1 : q < 100)
    (hp : ∀ w, Calls Try.prog 27 #[.int .i64 z, .int .i64 255] w fun e w' => e = .returned (.int .i64 (l - 1)) ∧ w = w')
    (hp2 : ∀ w, Calls Try.prog 27 #[.int .i64 a, .int .i64 100] w fun e w' => e = .returned (.int .i64 q) ∧ w = w') :
    Calls Try.prog 6 #[.int .i64 z, .agg cs, .int .i64 a] w fun e w' => e = .returned (.bool true) ∧ Below w.heap.size w w' := by
  obtain ⟨wb, hwb⟩ : ∃ wb, wb = (w.alloc (.cells cs 65)) := ⟨_, rfl⟩
  have hbb : Below w.heap.size w wb := by rw [hwb]; exact (Below.refl _ _).alloc (Nat.le_refl _) _
  have HBX : Hid (Blk wb w.heap.size 65 cs) := by rw [hwb]; exact Blk.new w _ _
  have HI : Hid (InsL (wb.alloc (.cells #[.int .i64 39, .int .i64 0, .int .i64 0, .int .i64 0, .int .i64 l, .int .i64 0, .int .i64 44, .int .i64 0, .int .i64 0, .int .i64 0, .int .i64 1, .int .i64 0, .int .i64 40, .int .i64 0, .int .i64 0, .int .i64 0, .int .i64 l, .int .i64 0, .int .i64 44, .int .i64 0, .int .i64 0, .int .i64 0, .int .i64 2, .int .i64 0] 36)) (some ⟨wb.heap.size, 0, none⟩) (SK l)) := by
    intro k i hk
    have hb := Blk.new wb 36 #[.int .i64 39, .int .i64 0, .int .i64 0, .int .i64 0, .int .i64 l, .int .i64 0, .int .i64 44, .int .i64 0, .int .i64 0, .int .i64 0, .int .i64 1, .int .i64 0, .int .i64 40, .int .i64 0, .int .i64 0, .int .i64 0, .int .i64 l, .int .i64 0, .int .i64 44, .int .i64 0, .int .i64 0, .int .i64 0, .int .i64 2, .int .i64 0]
    match k, hk with
    | 0, hk => simp [SK] at hk; subst hk; exact ⟨_, 0, rfl, hb.cell 0, hb.cell 1, hb.cell 2, hb.cell 3, hb.cell 4, hb.cell 5⟩
    | 1, hk => simp [SK] at hk; subst hk; exact ⟨_, 0, rfl, hb.cell 6, hb.cell 7, hb.cell 8, hb.cell 9, hb.cell 10, hb.cell 11⟩
    | 2, hk => simp [SK] at hk; subst hk; exact ⟨_, 0, rfl, hb.cell 12, hb.cell 13, hb.cell 14, hb.cell 15, hb.cell 16, hb.cell 17⟩
    | 3, hk => simp [SK] at hk; subst hk; exact ⟨_, 0, rfl, hb.cell 18, hb.cell 19, hb.cell 20, hb.cell 21, hb.cell 22, hb.cell 23⟩
    | k + 4, hk => simp [SK] at hk
  have HLD := Lib.hid (load_c _ 0 _ 4 (SK l) HI.out (SK_right l hl0 hl1) (by simp [SK]) (SK_len l hl0 hl1))
  have HB0 : Hid (Below wb.heap.size wb (wb.alloc (.cells #[.int .i64 39, .int .i64 0, .int .i64 0, .int .i64 0, .int .i64 l, .int .i64 0, .int .i64 44, .int .i64 0, .int .i64 0, .int .i64 0, .int .i64 1, .int .i64 0, .int .i64 40, .int .i64 0, .int .i64 0, .int .i64 0, .int .i64 l, .int .i64 0, .int .i64 44, .int .i64 0, .int .i64 0, .int .i64 0, .int .i64 2, .int .i64 0] 36))) := (Below.refl _ _).alloc (Nat.le_refl _) _
  have hKF : loadB (fun _ => 0) (0 : Int).toNat (flatE (SK l)) (flatE (SK l)).length = (SKF l) := rfl
  have hK0 : (SK l).length = 4 := rfl
  rw [hKF, hK0] at HLD
  clear hKF hK0 HI
  have HPK := Lib.hid hp
  have HPK2 := Lib.hid hp2
  have HX := Lib.hid hx
  have HL := Lib.hid (show 1 ≤ l ∧ l ≤ 255 from ⟨hl0, hl1⟩)
  have e0 : IntKind.i64.wrap (1 + (l - 1)) = l := by rw [IntWalk.i64_in _ (by omega)]; omega
  obtain ⟨base, hbase⟩ : ∃ base, 262144 - 4 * q = base := ⟨_, rfl⟩
  have e1 : IntKind.i64.wrap (4 * q) = 4 * q := IntWalk.i64_in _ (by omega)
  have e2 : IntKind.u32.wrap (IntKind.i64.wrap (262144 - 4 * q)) = base := by rw [IntWalk.i64_in _ (by omega), IntKind.wrap_u32']; omega
  have HBS : Hid (131200 ≤ base ∧ base ≤ 262144 ∧ base % 4 = 0) := by show _ ∧ _ ∧ _; omega
  clear hp hp2 hx
  go_enter Try.func6, Try.ntmps6
  go_upto_region 1 with (fail)
  rw [← hwb]
  clear hwb
  go_wp2_with fail
  refine (HPK.out _).mono ?_
  rintro e w' ⟨rfl, rfl⟩
  clear HPK
  go_wp2_with fail

  refine (HLD.out).mono ?_
  rintro e w1 ⟨m, g, rfl, hm, hm1, hg1, hb1⟩
  have HM1 := Lib.hid hm
  have HB1 := Lib.hid (HB0.out.trans (hb1.mono HB0.out.size))
  have HGS := Lib.hid (Nat.le_trans HB0.out.size hg1)
  clear hm hb1 HLD hm1 hg1
  go_wp2_with fail
  refine (chipNew_c w1).mono ?_
  rintro e w2 ⟨rfl, hc, hb2⟩
  have HC2 := Lib.hid hc
  have HM2 : Hid (MW w2 m g (SKF l)) := HM1.out.only (S := fun _ => False) (Only.of_below hb2) id id
  have HB2 := Lib.hid (HB1.out.trans (hb2.mono HB1.out.size))
  have HPL := Lib.hid (show wb.heap.size ≤ w1.heap.size from HB1.out.size)
  generalize w1.heap.size = pc at *
  clear hc hb2
  go_wp2_with fail
  refine (known_c w2).mono ?_
  rintro e w4 ⟨rfl, hb4⟩
  have HC4 : Hid (ChW w4 pc Ch0) := HC2.out.only (S := fun _ => False) (Only.of_below hb4) id
  have HM4 : Hid (MW w4 m g (SKF l)) := HM2.out.only (S := fun _ => False) (Only.of_below hb4) id id
  have HB4 := Lib.hid (HB2.out.trans (hb4.mono HB2.out.size))
  clear hb4 HC2 HM2 HB2 HB1 HM1 HB0
  have HAP := Lib.hid (HC4.out.apart HM4.out)
  go_wp2_with fail
  refine (HPK2.out _).mono ?_
  rintro e w' ⟨rfl, rfl⟩
  clear HPK2
  have HBX4 : Hid (Blk w4 w.heap.size 65 cs) := HBX.out.only (S := fun _ => False) (Only.of_below HB4.out) id
  have z13 := HC4.out.frozen 13
  have q13 := HC4.out.reg (k := 13) (by omega)
  have HC5 : Hid (ChW (w4.setCell ⟨pc, 13, none⟩ (.int .u32 base)) pc (SC (SR0 base) 0 0 0)) := HC4.out.setReg (k := 13) (x := base) (by omega) (by have := HBS.out; unfold U; omega)
  have O5 := Lib.hid ((Only.refl (fun j => j = pc) w4).setCell (p := ⟨pc, 13, none⟩) (.inl rfl) (.int .u32 base))
  go_upto_region 8 with (fail)
  have hbw : w.heap.size < wb.heap.size := HBX.out.lt
  obtain ⟨w5, hw5⟩ : ∃ w5, w5 = w4.setCell ⟨pc, 13, none⟩ (.int .u32 base) := ⟨_, rfl⟩
  rw [← hw5] at HC5 O5 ⊢
  have hpl := HPL.out
  have HM5 := Lib.hid (HM4.out.only O5.out (fun e => HAP.out.1 e.symm) (fun e => HAP.out.2 e.symm))
  have HBX5 := Lib.hid (HBX4.out.only O5.out (fun e => by have e' : w.heap.size = pc := e; omega))
  have HB5 : Hid (Below wb.heap.size wb w5) := HB4.out.trans (O5.out.below HB4.out.size (fun j e => by rw [e]; exact hpl))
  clear hw5 q13 z13 HC4 HM4 HBX4 HB4 O5 HBX
  go_wp2_with fail
  go_loopw [10, 11] (fun s10 s11 wx => ∃ k : Nat, k ≤ 8 ∧ s11 = .int .i64 k ∧ s10 = .int .u32 (bitsTo l k).length ∧ ChW wx pc (SC (regUp (SR0 base) x k) 0 0 0) ∧ Only (fun j => j = pc) w5 wx) (fun _ i _ => 8 - (intOf i).toNat)
  case atStart => exact ⟨0, by omega, rfl, rfl, HC5.out, Only.refl _ _⟩
  case round =>
    obtain ⟨k, hk, rfl, rfl, hc, ho⟩ := hrel
    have HC := Lib.hid hc; have HO := Lib.hid ho
    by_cases hlt : k < 8
    · have hbk := and1_255 l (by have := HL.out; omega) HL.out.2 k
      obtain ⟨hxk, hux⟩ := HX.out k hlt
      have HBXr := Lib.hid (HBX5.out.only ho (fun e => by have e' : w.heap.size = pc := e; omega))
      have cx := HBXr.out.cell k
      rw [hxk] at cx
      have ck := hc.reg (k := k) (by omega)
      have zk := hc.frozen k
      have HC' : Hid (ChW (wr.setCell ⟨pc, k, none⟩ (.int .u32 (x k))) pc (SC (regUp (SR0 base) x (k + 1)) 0 0 0)) := hc.setReg (k := k) (x := x k) (by omega) hux
      have HO' := Lib.hid (ho.setCell (p := ⟨pc, k, none⟩) (.inl rfl) (.int .u32 (x k)))
      have HBT : Hid (bitsTo l (k + 1) = bitsTo l k ++ (if l / 2 ^ k % 2 = 1 then [(k : Int)] else [])) := rfl
      have hbl := bitsTo_len l k
      clear hc ho hxk hux HC HO
      generalize SC (regUp (SR0 base) x k) 0 0 0 = cK at *
      generalize x k = xk at *
      by_cases hb : l / 2 ^ k % 2 = 1
      · have hbb : (l / 2 ^ k % 2 == 1) = true := by simp [hb]
        rw [if_pos hb] at HBT
        have HBL : Hid (((bitsTo l (k + 1)).length : Int) = (bitsTo l k).length + 1) := by rw [HBT.out]; show _ = _; simp
        clear hb HBT
        generalize (bitsTo l k).length = bl at *
        go_wp2_with fail
        go_region
        go_wp2_with fail
        exact ⟨⟨k + 1, by omega, by go_num, by rw [HBL.out], ⟨HC'.out.1.drew, HC'.out.2⟩, HO'.out.drew⟩, by simp [intOf]; omega⟩
      · have hbb : (l / 2 ^ k % 2 == 1) = false := by simp [hb]
        rw [if_neg hb, List.append_nil] at HBT
        have HBL : Hid ((bitsTo l (k + 1)).length = (bitsTo l k).length) := by rw [HBT.out]; exact rfl
        clear hb HBT
        generalize (bitsTo l k).length = bl at *
        go_wp2_with fail
        go_region
        go_wp2_with fail
        exact ⟨⟨k + 1, by omega, by go_num, by rw [HBL.out], ⟨HC'.out.1.drew, HC'.out.2⟩, HO'.out.drew⟩, by simp [intOf]; omega⟩
    · have hk8 : k = 8 := by omega
      subst hk8
      clear hlt hk
      have hbl := bitsTo_len l 8
      have L0 : (regUp (SR0 base) x 8).length = 16 := by rw [regUp_len]; rfl
      have g15 : (regUp (SR0 base) x 8).getD 15 0 = 0 := by rw [regUp_out (by omega)]; rfl
      have g13 : (regUp (SR0 base) x 8).getD 13 0 = base := by rw [regUp_out (by omega)]; rfl
      have HIN : Hid (∀ j, j < 8 → (regUp (SR0 base) x 8).getD j 0 = x j) := fun j hj => regUp_in hj (show 8 ≤ 16 by decide)
      have HU0 : Hid (∀ y ∈ regUp (SR0 base) x 8, U y) := hc.2.u
      obtain ⟨cyc1, evs1, hr1⟩ := sk_run1 (.pointer (some ⟨m, 0, none⟩)) l base _ HL.out.1 HL.out.2 L0 g15 g13 HBS.out.1 HBS.out.2.1 HBS.out.2.2
      have HR1 := Lib.hid hr1
      have HMr := Lib.hid (HM5.out.only ho (fun e => HAP.out.1 e.symm) (fun e => HAP.out.2 e.symm))
      have HBr : Hid (Below wb.heap.size wb wr) := HB5.out.trans (ho.below HB5.out.size (fun j e => by rw [e]; exact hpl))
      have HBXr := Lib.hid (HBX5.out.only ho (fun e => by have e' : w.heap.size = pc := e; omega))
      have HLR := Lib.hid L0
      generalize regUp (SR0 base) x 8 = R at *
      clear hc ho hr1 L0 g15 g13 HO HC5 HM5 HB5 HBX5
      obtain ⟨bl, hbl2⟩ : ∃ bl, (bitsTo l 8).length = bl := ⟨_, rfl⟩
      rw [hbl2] at hbl HR1 ⊢
      have HBL := Lib.hid hbl2
      clear hbl2
      obtain ⟨b0, b1, b2⟩ := HBS.out
      go_wp2_with fail
      refine (run_c wr pc m g none none (SC R 0 0 0) (SKF l) [] 9 HC.out HMr.out (fun tp e => by cases e) (fun a e => by cases e) (by decide)).mono ?_
      rintro e w6 ⟨rfl, hc6, hm6, _, _, o6⟩
      have hr1 : runUp (.pointer (some ⟨m, 0, none⟩)) (SC R 0 0 0) (SKF l) 9 = _ := HR1.out
      rw [hr1] at hc6 hm6 ⊢
      dsimp only at hc6 hm6 ⊢
      have HF6 : Hid (∀ j, j = w.heap.size → ¬ (j = pc ∨ j = g ∨ TrS none none j)) := fun j hj h => by
        have := HGS.out
        rcases h with h | h | ⟨tp', h1, _⟩ | ⟨h, _⟩
        · omega
        · omega
        · cases h1
        · exact absurd rfl h
      have HB6 : Hid (Below wb.heap.size wb w6) := HBr.out.trans (o6.below HBr.out.size (fun j h => by
        rcases h with h | h | ⟨tp', h1, _⟩ | ⟨h, _⟩
        · rw [h]; exact hpl
        · rw [h]; exact HGS.out
        · cases h1
        · exact absurd rfl h))
      have HBX6 := Lib.hid (HBXr.out.only o6 (HF6.out _ rfl))
      have HC6 : Hid (ChW w6 pc (SC (((R.set 15 2).set 13 (base - 4 * bl)).set 15 4) 1 1 cyc1)) := hc6
      have HM6 := Lib.hid hm6
      have q13 := HC6.out.reg (k := 13) (by omega)
      have e13 : (SC (((R.set 15 2).set 13 (base - 4 * bl)).set 15 4) 1 1 cyc1).R.getD 13 0 = base - 4 * bl := by
        show (((R.set 15 2).set 13 (base - 4 * bl)).set 15 4).getD 13 0 = _
        rw [getD_set_ne _ (by decide), getD_set_eq _ (by rw [List.length_set]; have := HLR.out; omega)]
      rw [e13] at q13
      clear e13 hc6 hm6 o6 hr1 HR1 HMr HBr HBXr HC
      have hb8 : (bl : Int) ≤ 8 := by omega
      have hg6 : g < w6.heap.size ∧ m < w6.heap.size := ⟨by obtain ⟨_, cz, hc, _⟩ := HM6.out; exact hc.lt, HM6.out.1.lt⟩
      go_wp2_with fail
      go_loopw [12] (fun s12 wx => ∃ k : Nat, k ≤ 8 ∧ s12 = .int .i64 k ∧ ChW wx pc (SC (regUp (((R.set 15 2).set 13 (base - 4 * bl)).set 15 4) (fun j => 4294967295 - x j) k) 1 1 cyc1) ∧ Only (fun j => j = pc) w6 wx) (fun i _ => 8 - (intOf i).toNat)
      case atStart => exact ⟨0, by omega, rfl, HC6.out, Only.refl _ _⟩
      case round =>
        obtain ⟨k, hk, rfl, hc, ho⟩ := hrel
        have HO := Lib.hid ho; have HC := Lib.hid hc
        by_cases hlt : k < 8
        · obtain ⟨hxk, hux⟩ := HX.out k hlt
          have HBXr := Lib.hid (HBX6.out.only ho (fun e => by have e' : w.heap.size = pc := e; omega))
          have cx := HBXr.out.cell k
          rw [hxk] at cx
          have ck := hc.reg (k := k) (by omega)
          have zk := hc.frozen k
          have HC' : Hid (ChW (wr.setCell ⟨pc, k, none⟩ (.int .u32 (4294967295 - x k))) pc (SC (regUp (((R.set 15 2).set 13 (base - 4 * bl)).set 15 4) (fun j => 4294967295 - x j) (k + 1)) 1 1 cyc1)) := hc.setReg (k := k) (x := 4294967295 - x k) (by omega) hux.neg
          have HO' := Lib.hid (ho.setCell (p := ⟨pc, k, none⟩) (.inl rfl) (.int .u32 (4294967295 - x k)))
          have hxm : bits .xor .u32 (if IntKind.u32.signed = true then -1 else IntKind.u32.max) (x k) = 4294967295 - x k := xor_max (x k) hux
          have HXM := Lib.hid hxm
          clear hc ho hxk hux HC HO q13
          generalize SC (regUp (((R.set 15 2).set 13 (base - 4 * bl)).set 15 4) (fun j => 4294967295 - x j) k) 1 1 cyc1 = cK at *
          generalize x k = xk at *
          clear hxm
          go_wp2_with fail
          go_region
          go_wp2_with fail
          rw [HXM.out]
          exact ⟨⟨k + 1, by omega, by go_num, ⟨HC'.out.1.drew, HC'.out.2⟩, HO'.out.drew⟩, by simp [intOf]; omega⟩
        · have hk8 : k = 8 := by omega
          subst hk8
          clear hlt hk q13
          have q20 := hc.rest.2.2.2.2.1
          have z20 := hc.frozen 20
          obtain ⟨w7, hw7⟩ : ∃ w7, w7 = wr.setCell ⟨pc, 20, none⟩ (.int .i64 0) := ⟨_, rfl⟩
          have o7 : Only (fun j => j = pc) w6 w7 := by rw [hw7]; exact ho.setCell (p := ⟨pc, 20, none⟩) (.inl rfl) _
          have hc7 : ChW w7 pc (SC (regUp (((R.set 15 2).set 13 (base - 4 * bl)).set 15 4) (fun j => 4294967295 - x j) 8) 0 1 cyc1) := by rw [hw7]; exact hc.setSt 0
          have HC7 := Lib.hid hc7
          have LR1 : (((R.set 15 2).set 13 (base - 4 * bl)).set 15 4).length = 16 := by rw [List.length_set, List.length_set, List.length_set]; exact HLR.out
          have g15 : (((R.set 15 2).set 13 (base - 4 * bl)).set 15 4).getD 15 0 = 4 := getD_set_eq _ (by rw [List.length_set, List.length_set]; have := HLR.out; omega)
          have g13 : (((R.set 15 2).set 13 (base - 4 * bl)).set 15 4).getD 13 0 = base - 4 * bl := by rw [getD_set_ne _ (by decide), getD_set_eq _ (by rw [List.length_set]; have := HLR.out; omega)]
          generalize ((R.set 15 2).set 13 (base - 4 * bl)).set 15 4 = R1 at *
          have HLR1 := Lib.hid LR1
          have HUU : Hid (∀ k, U (((R.set 15 2).set 13 (base - 4 * bl)).getD k 0)) := fun k => by
            by_cases e : k < 16
            · rw [List.getD_eq_getElem?_getD]
              by_cases e13 : k = 13
              · subst e13
                rw [List.getElem?_set_self (by rw [List.length_set]; have := HLR.out; omega)]
                show U (base - 4 * bl)
                unfold U; omega
              · rw [List.getElem?_set_ne (by omega)]
                by_cases e15 : k = 15
                · subst e15
                  rw [List.getElem?_set_self (by have := HLR.out; omega)]
                  show U 2
                  unfold U; omega
                · rw [List.getElem?_set_ne (by omega), List.getElem?_eq_getElem (by have := HLR.out; omega)]
                  exact HU0.out _ (List.getElem_mem _)
            · rw [List.getD_eq_getElem?_getD, List.getElem?_eq_none (by rw [List.length_set, List.length_set]; have := HLR.out; omega)]
              show U 0
              unfold U; omega
          have ok : ∀ k : Nat, k < bl → okSW (base - 4 * bl + 4 * k) = true := fun k hk => by rw [okSW_iff]; omega
          have hwd := fun (k : Nat) (hk : k < bl) => storeUp_word (f := SKF l) (a := base - 4 * bl) (R := (R.set 15 2).set 13 (base - 4 * bl)) (l := bitsTo l 8) ok (fun k => HUU.out _) k hk
          obtain ⟨cyc2, evs2, hr2⟩ := sk_run2 (.pointer (some ⟨m, 0, none⟩)) l base 1 cyc1 (regUp R1 (fun j => 4294967295 - x j) 8) (storeUp (SKF l) (base - 4 * bl) ((R.set 15 2).set 13 (base - 4 * bl)) (bitsTo l 8) bl) (fun k => ((R.set 15 2).set 13 (base - 4 * bl)).getD ((bitsTo l 8).getD k 0).toNat 0)
            HL.out.1 HL.out.2 (by rw [regUp_len]; exact LR1) (by rw [regUp_out (by omega)]; exact g15) (by rw [regUp_out (by omega), HBL.out]; exact g13) b0 b1 (storeUp_low _ _ _ _ _) (by rw [HBL.out]; exact hwd)
          have hfin := sk_final l (base - 4 * bl) base R (regUp R1 (fun j => 4294967295 - x j) 8) x (fun j => 4294967295 - x j) (by rw [regUp_len]; exact LR1) HIN.out (fun j hj => regUp_in hj (by rw [LR1]; decide))
          rw [HBL.out] at hr2 hfin
          have HR2 := Lib.hid hr2
          have HFI := Lib.hid hfin
          have HM7 := Lib.hid (HM6.out.only o7 (fun e => HAP.out.1 e.symm) (fun e => HAP.out.2 e.symm))
          have HB7 : Hid (Below wb.heap.size wb w7) := HB6.out.trans (o7.below HB6.out.size (fun j e => by rw [e]; exact hpl))
          have HBX7 := Lib.hid (HBX6.out.only o7 (fun e => by have e' : w.heap.size = pc := e; omega))
          generalize storeUp (SKF l) (base - 4 * bl) ((R.set 15 2).set 13 (base - 4 * bl)) (bitsTo l 8) bl = F1 at *
          clear hr2 hfin hwd ok LR1 g15 g13 hc7 o7 HC6 HM6 HB6 HBX6 ho hc HO HC
          go_upto_region 22 with (fail)
          rw [← hw7]
          clear hw7 q20 z20
          go_wp2_with fail
          refine (run_c w7 pc m g none none _ F1 [] 9 HC7.out HM7.out (fun tp e => by cases e) (fun a e => by cases e) (by decide)).mono ?_
          rintro e w8 ⟨rfl, hc8, _, _, _, o8⟩
          have hr2 : runUp (.pointer (some ⟨m, 0, none⟩)) (SC (regUp R1 (fun j => 4294967295 - x j) 8) 0 1 cyc1) F1 9 = _ := HR2.out
          rw [hr2] at hc8 ⊢
          dsimp only at hc8 ⊢
          have HB8 : Hid (Below wb.heap.size wb w8) := HB7.out.trans (o8.below HB7.out.size (fun j h => by
            rcases h with h | h | ⟨tp', h1, _⟩ | ⟨h, _⟩
            · rw [h]; exact hpl
            · rw [h]; exact HGS.out
            · cases h1
            · exact absurd rfl h))
          have HBX8 := Lib.hid (HBX7.out.only o8 (HF6.out _ rfl))
          have q13 := hc8.reg (k := 13) (by omega)
          dsimp only at q13
          rw [getD_set_ne _ (by decide), getD_set_eq _ (by rw [setUp_len, List.length_set, regUp_len]; have := HLR1.out; omega)] at q13
          have q21 : w8.cell? ⟨pc, 21, none⟩ = some (.int .i64 2) := hc8.rest.2.2.2.2.2.1
          have HRG : Hid (∀ i, i < 8 → w8.cell? ⟨pc, i, none⟩ = some (.int .u32 (if l / 2 ^ i % 2 = 1 then x i else 4294967295 - x i))) := fun i hi => by
            rw [← HFI.out i hi]
            exact hc8.reg (k := i) (by omega)
          clear hc8 o8 hr2 HR2 HC7 HM7 HB7 HBX7 HFI
          go_wp2_with fail
          go_loopw [13, 14] (fun s13 s14 wx => ∃ k : Nat, k ≤ 8 ∧ s13 = .int .i64 k ∧ wx = w8) (fun i _ _ => 8 - (intOf i).toNat)
          case atStart => exact ⟨0, by omega, rfl, rfl⟩
          case round =>
            obtain ⟨k, hk, rfl, rfl⟩ := hrel
            by_cases hlt : k < 8
            · have hbk := and1_255 l (by have := HL.out; omega) HL.out.2 k
              obtain ⟨hxk, hux⟩ := HX.out k hlt
              have cx := HBX8.out.cell k
              rw [hxk] at cx
              have ck := HRG.out k hlt
              have hxm : bits .xor .u32 (if IntKind.u32.signed = true then -1 else IntKind.u32.max) (x k) = 4294967295 - x k := xor_max (x k) hux
              have hxm2 := xor_max (x k) hux
              clear hxk hux
              generalize x k = xk at *
              by_cases hb : l / 2 ^ k % 2 = 1
              · have hbb : (l / 2 ^ k % 2 == 1) = true := by simp [hb]
                rw [if_pos hb] at ck
                clear hb
                go_wp2_with fail
                exact ⟨⟨k + 1, by omega, by go_num, trivial⟩, by simp [intOf]; omega⟩
              · have hbb : (l / 2 ^ k % 2 == 1) = false := by simp [hb]
                rw [if_neg hb] at ck
                clear hb
                go_wp2_with fail
                exact ⟨⟨k + 1, by omega, by go_num, trivial⟩, by simp [intOf]; omega⟩
            · have hk8 : k = 8 := by omega
              subst hk8
              go_wp2_with fail
              go_ret
              exact ⟨rfl, hbb.trans (HB8.out.mono hbb.size)⟩
theorem chipStacks_top (v0 v1 v2 : Value) (w : World) (u0 : Vw.Arg Try.prog w 3 v0) (u1 : Vw.Arg Try.prog w 65 v1) (u2 : Vw.Arg Try.prog w 3 v2) :
    Calls Try.prog 6 #[v0, v1, v2] w fun e w' => e = .returned (.bool true) ∧ Below w.heap.size w w' := by
  obtain ⟨z, rfl, _⟩ := u0.int Try.underlying3
  obtain ⟨cs, x, rfl, _, hx⟩ := arg_eight u1
  obtain ⟨a, rfl, _⟩ := u2.int Try.underlying3
  exact chipStacks_c w z (z % 255 + 1) (a % 100) a cs x hx (by omega) (by omega) (by omega) (by omega) (fun w => (pickN z 255 (by decide) (by decide) w).mono (fun _ _ h => ⟨by rw [h.1]; congr 2; omega, h.2⟩)) (fun w => pickN a 100 (by decide) (by decide) w)
end Go.Proofs.Ytpihjhfaeloapaa
