/- ChipStops. PRINTED by gencd.py. -/
import Derived.Test.YtpihjhfaeloapaaCp
import Derived.Test.YtpihjhfaeloapaaQe
import Derived.Test.YtpihjhfaeloapaaView
import Derived.Lib.QuietBelow
import Derived.BigQuiet
import Derived.Deep.QuietTactic
import Derived.Laws.StructEq
import Derived.ChangeKeysEq
namespace Go.Proofs.Ytpihjhfaeloapaa
open Go.RowKit On Th
def ST : List Ins := [⟨32, 0, 1, 0, 0, 0⟩, ⟨45, 0, 0, 0, 0, 0⟩]
def STF : Nat → Int := loadB (fun _ => 0) 0 (flatE ST) (flatE ST).length
def ST0 (n a : Int) : Ch := ⟨[n, a, 0, 0, 0, 0, 0, 0, 0, 0, 0, 0, 0, 0, 0, 0], false, false, false, false, 0, 0, 0⟩
def ST2 (n a : Int) : Ch := ⟨[n, a, 0, 0, 0, 0, 0, 0, 0, 0, 0, 0, 0, 0, 0, 0], false, false, false, false, 2, 0, 0⟩
theorem ST_right : ∀ i ∈ ST, rightS i = true := by
  intro i hi
  simp [ST] at hi
  rcases hi with rfl | rfl <;> decide
theorem ST_fetch : fetchS STF 0 = (⟨32, 0, 1, 0, 0, 0⟩, 1, 0) := by kernel_rfl
theorem ST_exec (mp : Value) (n a : Int) : ((ST0 n a).sp mp ⟨32, 0, 1, 0, 0, 0⟩).exec STF = (((ST0 n a).sp mp ⟨32, 0, 1, 0, 0, 0⟩).memEnd ((a + 0) % 4294967296) (setWordS STF ((a + 0) % 4294967296) n).2, (setWordS STF ((a + 0) % 4294967296) n).1) := rfl
theorem ST_step (mp : Value) (n a : Int) (h0 : 0 ≤ a) (h1 : a < 131072) : stepS mp (ST0 n a) STF = (ST2 n a, STF, []) := by
  have hs : setWordS STF ((a + 0) % 4294967296) n = (STF, false) := by unfold setWordS; rw [if_neg (by omega)]
  have he := ST_exec mp n a
  rw [hs] at he
  exact stepS_bad rfl ST_fetch he rfl
theorem ST_run (mp : Value) (n a : Int) : runUp mp (ST2 n a) STF 5 = (ST2 n a, STF, []) := runUp_stop mp _ _ 0 5 (by omega) rfl (by show (2 : Int) ≠ 0; decide)

set_option maxHeartbeats 8000000 in
set_option maxRecDepth 100000 in
theorem chipStops_c (w : World) (x n k : Int) (hn : U n) (hk0 : 0 ≤ k) (hk1 : k < 32768)
    (hp : Calls Try.prog 27 #[.int .i64 x, .int .i64 32768] w fun e w' => e = .returned (.int .i64 k) ∧ w = w') :
    Calls Try.prog 7 #[.int .i64 x, .int .u32 n] w fun e w' => e = .returned (.bool true) ∧ Below w.heap.size w w' := by
  have HI : Hid (InsL (w.alloc (.cells #[.int .i64 32, .int .i64 0, .int .i64 1, .int .i64 0, .int .i64 0, .int .i64 0, .int .i64 45, .int .i64 0, .int .i64 0, .int .i64 0, .int .i64 0, .int .i64 0] 36)) (some ⟨w.heap.size, 0, none⟩) ST) := by
    intro k i hk
    have hb := Blk.new w 36 #[.int .i64 32, .int .i64 0, .int .i64 1, .int .i64 0, .int .i64 0, .int .i64 0, .int .i64 45, .int .i64 0, .int .i64 0, .int .i64 0, .int .i64 0, .int .i64 0]
    match k, hk with
    | 0, hk => simp [ST] at hk; subst hk; exact ⟨_, 0, rfl, hb.cell 0, hb.cell 1, hb.cell 2, hb.cell 3, hb.cell 4, hb.cell 5⟩
    | 1, hk => simp [ST] at hk; subst hk; exact ⟨_, 0, rfl, hb.cell 6, hb.cell 7, hb.cell 8, hb.cell 9, hb.cell 10, hb.cell 11⟩
    | k + 2, hk => simp [ST] at hk
  have HLD := Lib.hid (load_c _ 0 _ 2 ST HI.out ST_right (by simp [ST]) (by unfold canLoad; decide))
  have HB0 : Hid (Below w.heap.size w (w.alloc (.cells #[.int .i64 32, .int .i64 0, .int .i64 1, .int .i64 0, .int .i64 0, .int .i64 0, .int .i64 45, .int .i64 0, .int .i64 0, .int .i64 0, .int .i64 0, .int .i64 0] 36))) := (Below.refl _ _).alloc (Nat.le_refl _) _
  have hKF : loadB (fun _ => 0) (0 : Int).toNat (flatE ST) (flatE ST).length = STF := rfl
  have hK0 : ST.length = 2 := rfl
  rw [hKF, hK0] at HLD
  clear hKF hK0 HI
  have HPK := Lib.hid hp
  have HN := Lib.hid hn
  have HK := Lib.hid (show 0 ≤ 4 * k ∧ 4 * k < 131072 by omega)
  have e1 : IntKind.u32.wrap (IntKind.i64.wrap (4 * k)) = 4 * k := by rw [IntWalk.i64_in _ (by omega), IntKind.wrap_u32']; omega
  clear hp hn
  go_enter Try.func7, Try.ntmps7
  go_wp2_with fail
  refine (HPK.out).mono ?_
  rintro e w' ⟨rfl, rfl⟩
  clear HPK
  go_wp2_with fail

  refine (HLD.out).mono ?_
  rintro e w1 ⟨m, g, rfl, hm, hm1, hg1, hb1⟩
  have HM1 := Lib.hid hm
  have HB1 := Lib.hid (HB0.out.trans (hb1.mono HB0.out.size))
  have HGS := Lib.hid (Nat.le_trans HB0.out.size hg1)
  clear hm hb1 HLD hm1 hg1
  go_wp2_with fail
  refine (chipNew_c w1).mono ?_
  rintro e w2 ⟨rfl, hc, hb2⟩
  have HC2 := Lib.hid hc
  have HM2 : Hid (MW w2 m g STF) := HM1.out.only (S := fun _ => False) (Only.of_below hb2) id id
  have HB2 := Lib.hid (HB1.out.trans (hb2.mono HB1.out.size))
  have HPL := Lib.hid (show w.heap.size ≤ w1.heap.size from HB1.out.size)
  generalize w1.heap.size = pc at *
  clear hc hb2
  go_wp2_with fail
  refine (known_c w2).mono ?_
  rintro e w4 ⟨rfl, hb4⟩
  have HC4 : Hid (ChW w4 pc Ch0) := HC2.out.only (S := fun _ => False) (Only.of_below hb4) id
  have HM4 : Hid (MW w4 m g STF) := HM2.out.only (S := fun _ => False) (Only.of_below hb4) id id
  have HB4 := Lib.hid (HB2.out.trans (hb4.mono HB2.out.size))
  clear hb4 HC2 HM2 HB2 HB1 HM1 HB0
  have HAP := Lib.hid (HC4.out.apart HM4.out)
  have HWD := Lib.hid (word_c w4 m g STF (4 * k) HM4.out)
  obtain ⟨⟨wd1, wd2⟩, hws⟩ : ∃ z, wordS STF (4 * k) = z := ⟨_, rfl⟩
  rw [hws] at HWD
  have HWS := Lib.hid hws
  clear hws
  dsimp only at HWD
  go_wp2_with fail
  refine (HWD.out).mono ?_
  rintro e w' ⟨rfl, rfl⟩
  have z0 := HC4.out.frozen 0
  have z1 := HC4.out.frozen 1
  have q0 := HC4.out.reg (k := 0) (by omega)
  have q1 := HC4.out.reg (k := 1) (by omega)
  have HC5 : Hid (ChW _ pc (ST0 n (4 * k))) := Lib.hid ((HC4.out.setReg (k := 0) (by omega) HN.out).setReg (k := 1) (x := 4 * k) (by omega) (by have := HK.out; unfold U; omega))
  have O5 := Lib.hid (((Only.refl (fun j => j = pc) w4).setCell (p := ⟨pc, 0, none⟩) (.inl rfl) (.int .u32 n)).setCell (p := ⟨pc, 1, none⟩) (.inl rfl) (.int .u32 (4 * k)))
  clear HWD
  go_wp2_with fail
  generalize (w4.setCell ⟨pc, 0, none⟩ (.int .u32 n)).setCell ⟨pc, 1, none⟩ (.int .u32 (4 * k)) = w5 at *
  have HM5 := Lib.hid (HM4.out.only O5.out (fun e => HAP.out.1 e.symm) (fun e => HAP.out.2 e.symm))
  have HB5 : Hid (Below w.heap.size w w5) := HB4.out.trans (O5.out.below HB4.out.size (fun j e => by rw [e]; exact HPL.out))
  clear q0 q1 z0 z1 HC4 HM4 HB4 O5
  refine (step_c w5 pc m g none none _ STF [] HC5.out HM5.out (fun tp e => by cases e) (fun a e => by cases e) (by decide)).mono ?_
  rintro e w6 ⟨rfl, hc6, hm6, _, _, o6⟩
  rw [ST_step _ n (4 * k) HK.out.1 HK.out.2] at hc6 hm6 ⊢
  have HB6 : Hid (Below w.heap.size w w6) := HB5.out.trans (o6.below HB5.out.size (fun j h => by
    rcases h with h | h | ⟨tp', h1, _⟩ | ⟨h, _⟩
    · rw [h]; exact HPL.out
    · rw [h]; exact HGS.out
    · cases h1
    · exact absurd rfl h))
  have HC6 := Lib.hid hc6; have HM6 := Lib.hid hm6
  clear hc6 hm6 o6 HC5 HM5 HB5
  dsimp only [ST2] at HC6 HM6 ⊢
  obtain ⟨AG, hAG⟩ : ∃ AG : List Value, AG = [.int .u32 n, .int .u32 (4 * k), .int .u32 0, .int .u32 0, .int .u32 0, .int .u32 0, .int .u32 0, .int .u32 0, .int .u32 0, .int .u32 0, .int .u32 0, .int .u32 0, .int .u32 0, .int .u32 0, .int .u32 0, .int .u32 0, .bool false, .bool false, .bool false, .bool false, .int .i64 2, .int .i64 0, .int .i64 0] := ⟨_, rfl⟩
  have HRG : Hid (w6.rangeAt pc 0 AG) := fun j v hv => by
    rw [hAG] at hv
    rw [Nat.zero_add, HC6.out.1.cell, List.getElem?_toArray]; exact hv
  have HSZ2 : Hid ((Try.prog.info? 44).map (·.size) = some AG.length) := by show _ = _; rw [hAG]; exact info_chip
  have HSZ3 : Hid ((Try.prog.info? 44).map (·.size) = some AG.toArray.size) := by show _ = _; rw [hAG]; exact info_chip
  have HSZ4 : Hid ((#[.int .u32 0, .int .u32 0, .int .u32 0, .int .u32 0, .int .u32 0, .int .u32 0, .int .u32 0, .int .u32 0, .int .u32 0, .int .u32 0, .int .u32 0, .int .u32 0, .int .u32 0, .int .u32 0, .int .u32 0, .int .u32 0, .bool false, .bool false, .bool false, .bool false, .int .i64 0, .int .i64 0, .int .i64 0] : Array Value).size = AG.toArray.size) := by show _ = _; rw [hAG]; rfl
  have HONE : Hid (AG.toArray.all (·.oneCell') = true) := by show _ = _; rw [hAG]; exact Ch.cells_one (ST2 n (4 * k))
  have HAG := Lib.hid hAG
  clear hAG
  go_upto_region 10 with (fail)
  go_upto_region 11 with (first | refine wpList_load_mid rfl 44 _ rfl pc 0 rfl AG _ HRG.out Try.underlying44 rfl HSZ2.out ?_ | refine wpList_store_row rfl 44 _ _ rfl w6.heap.size AG.toArray rfl rfl 44 #[.int .u32 0, .int .u32 0, .int .u32 0, .int .u32 0, .int .u32 0, .int .u32 0, .int .u32 0, .int .u32 0, .int .u32 0, .int .u32 0, .int .u32 0, .int .u32 0, .int .u32 0, .int .u32 0, .int .u32 0, .int .u32 0, .bool false, .bool false, .bool false, .bool false, .int .i64 0, .int .i64 0, .int .i64 0] (Blk.new w6 _ _) HSZ3.out HSZ4.out HONE.out ?_)
  obtain ⟨wZ, hwZ⟩ : ∃ wZ, wZ = w6.alloc (.cells #[.int .u32 0, .int .u32 0, .int .u32 0, .int .u32 0, .int .u32 0, .int .u32 0, .int .u32 0, .int .u32 0, .int .u32 0, .int .u32 0, .int .u32 0, .int .u32 0, .int .u32 0, .int .u32 0, .int .u32 0, .int .u32 0, .bool false, .bool false, .bool false, .bool false, .int .i64 0, .int .i64 0, .int .i64 0] 44) := ⟨_, rfl⟩
  have hBZ : Blk wZ w6.heap.size 44 #[.int .u32 0, .int .u32 0, .int .u32 0, .int .u32 0, .int .u32 0, .int .u32 0, .int .u32 0, .int .u32 0, .int .u32 0, .int .u32 0, .int .u32 0, .int .u32 0, .int .u32 0, .int .u32 0, .int .u32 0, .int .u32 0, .bool false, .bool false, .bool false, .bool false, .int .i64 0, .int .i64 0, .int .i64 0] := by rw [hwZ]; exact Blk.new w6 _ _
  have hOZ : Only (fun _ => False) w6 wZ := by rw [hwZ]; exact (Only.refl _ _).alloc _
  rw [← hwZ]
  have HXA : Hid (Blk (wZ.setRow w6.heap.size AG.toArray) w6.heap.size 44 AG.toArray) := setRow_heap _ _ _ _ _ _ hBZ
  have hOX : Only (fun k => k = w6.heap.size) wZ (wZ.setRow w6.heap.size AG.toArray) := ⟨rfl, rfl, rfl, by simp [World.setRow], fun i _ hn => setRow_other _ _ _ _ hn⟩
  have HOA : Hid (Only (fun _ => False) w6 (wZ.setRow w6.heap.size AG.toArray)) := hOZ.trans hOX (fun i hi e => by have e' : i = w6.heap.size := e; omega)
  obtain ⟨wA, hwA⟩ : ∃ wA, wA = wZ.setRow w6.heap.size AG.toArray := ⟨_, rfl⟩
  rw [← hwA] at HXA HOA ⊢
  clear hwA hOX hOZ hBZ hwZ
  obtain ⟨xp, hxp⟩ : ∃ xp, xp = w6.heap.size := ⟨_, rfl⟩
  rw [← hxp] at HXA ⊢
  have hpx : pc < xp := by rw [hxp]; exact HC6.out.1.lt
  have hgx : g < xp := by
    rw [hxp]
    obtain ⟨_, cs, hc, _⟩ := HM6.out
    exact hc.lt
  have HCA : Hid (ChW wA pc (ST2 n (4 * k))) := HC6.out.only HOA.out id
  have HMA : Hid (MW wA m g STF) := HM6.out.only HOA.out id id
  have HBA : Hid (Below w.heap.size w wA) := HB6.out.trans (HOA.out.below HB6.out.size (fun _ h => h.elim))
  have hxl : w.heap.size ≤ xp := by rw [hxp]; exact HB6.out.size
  clear hxp HOA HC6 HM6 HB6 HRG
  go_wp2_with fail
  refine (run_c wA pc m g none none _ STF [] 5 HCA.out HMA.out (fun tp e => by cases e) (fun a e => by cases e) (by decide)).mono ?_
  rintro e w7 ⟨rfl, hc7, hm7, _, _, o7⟩
  rw [ST_run _ n (4 * k)] at hc7 hm7 ⊢
  have HB7 : Hid (Below w.heap.size w w7) := HBA.out.trans (o7.below HBA.out.size (fun j h => by
    rcases h with h | h | ⟨tp', h1, _⟩ | ⟨h, _⟩
    · rw [h]; exact HPL.out
    · rw [h]; exact HGS.out
    · cases h1
    · exact absurd rfl h))
  have HX7 : Hid (Blk w7 xp 44 AG.toArray) := HXA.out.only o7 (fun h => by
    rcases h with h | h | ⟨tp', h1, _⟩ | ⟨h, _⟩
    · omega
    · omega
    · cases h1
    · exact absurd rfl h)
  have HC7 := Lib.hid hc7; have HM7 := Lib.hid hm7
  clear hc7 hm7 o7 HCA HMA HBA HXA
  dsimp only [ST2] at HC7 HM7 ⊢
  have HWD := Lib.hid (word_c w7 m g STF (4 * k) HM7.out)
  rw [HWS.out] at HWD
  dsimp only at HWD
  go_wp2_with fail
  refine (HWD.out).mono ?_
  rintro e w' ⟨rfl, rfl⟩
  have heq : ∀ wq, (Op.equalIn 10000 44 (.agg AG.toArray) (.agg AG.toArray)).run Try.prog wq = .ok true wq := fun wq => by rw [HAG.out]; exact eq_chip0 n (4 * k) 0 0 0 0 0 0 0 0 0 0 0 0 0 0 2 0 0 false false false false wq
  have HS : Hid (∀ wq, Only (fun _ => False) w7 wq → wq.rangeAt pc 0 AG ∧ wq.rangeAt xp 0 AG ∧ wq.cell? ⟨pc, 15, none⟩ = some (.int .u32 0) ∧ wq.cell? ⟨pc, 22, none⟩ = some (.int .i64 0)) := fun wq ho => by
    have h1 := HC7.out.only ho id
    have h2 := HX7.out.only ho id
    have r1 : wq.rangeAt pc 0 AG := fun j v hv => by
      rw [HAG.out] at hv
      rw [Nat.zero_add, h1.1.cell, List.getElem?_toArray]; exact hv
    have r2 : wq.rangeAt xp 0 AG := fun j v hv => by
      rw [Nat.zero_add, h2.cell, List.getElem?_toArray]; exact hv
    exact ⟨r1, r2, h1.reg (k := 15) (by omega), h1.rest.2.2.2.2.2.2⟩
  clear HWD
  have kf := HS.out w7.drew (Only.refl _ _).drew
  go_wp2_with fail
  refine wp_region_held_drew (S := fun w' => w'.rangeAt pc 0 AG ∧ w'.rangeAt xp 0 AG ∧ w'.cell? ⟨pc, 15, none⟩ = some (.int .u32 0) ∧ w'.cell? ⟨pc, 22, none⟩ = some (.int .i64 0)) (by kernel_rfl) (by exact kf) (fun hHeld => ?_)

  refine wpAnyH_take (i := 0) (v := ?_) rfl (by kernel_rfl) (by kernel_rfl) (by kernel_rfl) (fun _ _ _ h => h) (Or.inl ⟨by rfl, ?_⟩) (by assumption) ?_
  rotate_left
  · intro w hSw
    try dsimp only at hSw
    simp only [List.getElem_toArray, List.getElem_cons_zero]
    go_simp
    try with_reducible rfl
  simp only [List.getElem_toArray, List.getElem_cons_zero, Act.put, List.setIfInBounds_toArray, List.set_cons_zero, List.set_cons_succ]
  refine wpAnyH_take (i := 1) (v := ?_) rfl (by kernel_rfl) (by kernel_rfl) (by kernel_rfl) (fun _ _ _ h => h) (Or.inl ⟨by rfl, ?_⟩) (by assumption) ?_
  rotate_left
  · intro w hSw
    try dsimp only at hSw
    simp only [List.getElem_toArray, List.getElem_cons_succ, List.getElem_cons_zero]
    go_simp
    try with_reducible rfl
  simp only [List.getElem_toArray, List.getElem_cons_succ, List.getElem_cons_zero, Act.put, List.setIfInBounds_toArray, List.set_cons_zero, List.set_cons_succ]
  refine wpAnyH_take (i := 2) (v := ?_) rfl (by kernel_rfl) (by kernel_rfl) (by kernel_rfl) (fun _ _ _ h => h) (Or.inl ⟨by rfl, ?_⟩) (by assumption) ?_
  rotate_left
  · intro w hSw
    try dsimp only at hSw
    simp only [List.getElem_toArray, List.getElem_cons_succ, List.getElem_cons_zero]
    go_simp
    try with_reducible rfl
  simp only [List.getElem_toArray, List.getElem_cons_succ, List.getElem_cons_zero, Act.put, List.setIfInBounds_toArray, List.set_cons_zero, List.set_cons_succ]
  refine wpAnyH_take (i := 3) (v := ?_) rfl (by kernel_rfl) (by kernel_rfl) (by kernel_rfl) (fun _ _ _ h => h) (Or.inl ⟨by rfl, ?_⟩) (by assumption) ?_
  rotate_left
  · intro w hSw
    try dsimp only at hSw
    simp only [List.getElem_toArray, List.getElem_cons_succ, List.getElem_cons_zero]
    go_simp
    try with_reducible rfl
  simp only [List.getElem_toArray, List.getElem_cons_succ, List.getElem_cons_zero, Act.put, List.setIfInBounds_toArray, List.set_cons_zero, List.set_cons_succ]
  refine wpAnyH_take (i := 4) (v := ?_) rfl (by kernel_rfl) (by kernel_rfl) (by kernel_rfl) (fun _ _ _ h => h) (Or.inl ⟨by rfl, ?_⟩) (by assumption) ?_
  rotate_left
  · intro w hSw
    try dsimp only at hSw
    simp only [List.getElem_toArray, List.getElem_cons_succ, List.getElem_cons_zero]
    go_simp
    try with_reducible rfl
  simp only [List.getElem_toArray, List.getElem_cons_succ, List.getElem_cons_zero, Act.put, List.setIfInBounds_toArray, List.set_cons_zero, List.set_cons_succ]
  refine wpAnyH_take (i := 5) (v := ?_) rfl (by kernel_rfl) (by kernel_rfl) (by kernel_rfl) (fun _ _ _ h => h) (Or.inl ⟨by rfl, ?_⟩) (by assumption) ?_
  rotate_left
  · intro w hSw
    try dsimp only at hSw
    simp only [List.getElem_toArray, List.getElem_cons_succ, List.getElem_cons_zero]
    go_simp
    try with_reducible rfl
  simp only [List.getElem_toArray, List.getElem_cons_succ, List.getElem_cons_zero, Act.put, List.setIfInBounds_toArray, List.set_cons_zero, List.set_cons_succ]
  refine wpAnyH_take (i := 6) (v := ?_) rfl (by kernel_rfl) (by kernel_rfl) (by kernel_rfl) (fun _ _ _ h => h) (Or.inl ⟨by rfl, ?_⟩) (by assumption) ?_
  rotate_left
  · intro w hSw
    try dsimp only at hSw
    simp only [List.getElem_toArray, List.getElem_cons_succ, List.getElem_cons_zero]
    go_simp
    try with_reducible rfl
  simp only [List.getElem_toArray, List.getElem_cons_succ, List.getElem_cons_zero, Act.put, List.setIfInBounds_toArray, List.set_cons_zero, List.set_cons_succ]
  refine wpAnyH_take (i := 7) (v := ?_) rfl (by kernel_rfl) (by kernel_rfl) (by kernel_rfl) (fun _ _ _ h => h) (Or.inl ⟨by rfl, ?_⟩) (by assumption) ?_
  rotate_left
  · intro w hSw
    try dsimp only at hSw
    simp only [List.getElem_toArray, List.getElem_cons_succ, List.getElem_cons_zero]
    go_simp
    try with_reducible rfl
  simp only [List.getElem_toArray, List.getElem_cons_succ, List.getElem_cons_zero, Act.put, List.setIfInBounds_toArray, List.set_cons_zero, List.set_cons_succ]
  refine wpAnyH_take (i := 8) (v := ?_) rfl (by kernel_rfl) (by kernel_rfl) (by kernel_rfl) (fun _ _ _ h => h) (Or.inl ⟨by rfl, ?_⟩) (by assumption) ?_
  rotate_left
  · intro w hSw
    try dsimp only at hSw
    simp only [List.getElem_toArray, List.getElem_cons_succ, List.getElem_cons_zero]
    go_simp
    try with_reducible rfl
  simp only [List.getElem_toArray, List.getElem_cons_succ, List.getElem_cons_zero, Act.put, List.setIfInBounds_toArray, List.set_cons_zero, List.set_cons_succ]
  refine wpAnyH_take (i := 9) (v := _) rfl (by kernel_rfl) (by kernel_rfl) (by kernel_rfl) (fun _ _ _ h => h) (yieldsIf_load_mid (by rfl) _ _ rfl _ _ rfl _ _ (fun w hSw => hSw.1) Try.underlying44 rfl HSZ2.out) (by assumption) ?_
  simp only [List.getElem_toArray, List.getElem_cons_succ, List.getElem_cons_zero, Act.put, List.setIfInBounds_toArray, List.set_cons_zero, List.set_cons_succ]
  refine wpAnyH_take (i := 10) (v := _) rfl (by kernel_rfl) (by kernel_rfl) (by kernel_rfl) (fun _ _ _ h => h) (yieldsIf_load_mid (by rfl) _ _ rfl _ _ rfl _ _ (fun w hSw => hSw.2.1) Try.underlying44 rfl HSZ2.out) (by assumption) ?_
  simp only [List.getElem_toArray, List.getElem_cons_succ, List.getElem_cons_zero, Act.put, List.setIfInBounds_toArray, List.set_cons_zero, List.set_cons_succ]
  refine wpAnyH_take (i := 11) (v := ?_) rfl (by kernel_rfl) (by kernel_rfl) (by kernel_rfl) (fun _ _ _ h => h) (Or.inl ⟨by rfl, ?_⟩) (by assumption) ?_
  rotate_left
  · intro w hSw
    try dsimp only at hSw
    simp only [List.getElem_toArray, List.getElem_cons_succ, List.getElem_cons_zero]
    go_simp
    try with_reducible rfl
  simp only [List.getElem_toArray, List.getElem_cons_succ, List.getElem_cons_zero, Act.put, List.setIfInBounds_toArray, List.set_cons_zero, List.set_cons_succ]
  refine wpAnyH_take (i := 12) (v := ?_) rfl (by kernel_rfl) (by kernel_rfl) (by kernel_rfl) (fun _ _ _ h => h) (Or.inl ⟨by rfl, ?_⟩) (by assumption) ?_
  rotate_left
  · intro w hSw
    try dsimp only at hSw
    simp only [List.getElem_toArray, List.getElem_cons_succ, List.getElem_cons_zero]
    go_simp
    try with_reducible rfl
  simp only [List.getElem_toArray, List.getElem_cons_succ, List.getElem_cons_zero, Act.put, List.setIfInBounds_toArray, List.set_cons_zero, List.set_cons_succ]
  refine wpAnyH_take (i := 13) (v := ?_) rfl (by kernel_rfl) (by kernel_rfl) (by kernel_rfl) (fun _ _ _ h => h) (Or.inl ⟨by rfl, ?_⟩) (by assumption) ?_
  rotate_left
  · intro w hSw
    try dsimp only at hSw
    simp only [List.getElem_toArray, List.getElem_cons_succ, List.getElem_cons_zero]
    go_simp
    try with_reducible rfl
  simp only [List.getElem_toArray, List.getElem_cons_succ, List.getElem_cons_zero, Act.put, List.setIfInBounds_toArray, List.set_cons_zero, List.set_cons_succ]
  refine wpAnyH_take (i := 14) (v := ?_) rfl (by kernel_rfl) (by kernel_rfl) (by kernel_rfl) (fun _ _ _ h => h) (Or.inl ⟨by rfl, ?_⟩) (by assumption) ?_
  rotate_left
  · intro w hSw
    try dsimp only at hSw
    simp only [List.getElem_toArray, List.getElem_cons_succ, List.getElem_cons_zero]
    go_simp
    try with_reducible rfl
  simp only [List.getElem_toArray, List.getElem_cons_succ, List.getElem_cons_zero, Act.put, List.setIfInBounds_toArray, List.set_cons_zero, List.set_cons_succ]
  refine wpAnyH_take (i := 15) (v := ?_) rfl (by kernel_rfl) (by kernel_rfl) (by kernel_rfl) (fun _ _ _ h => h) (Or.inl ⟨by rfl, ?_⟩) (by assumption) ?_
  rotate_left
  · intro w hSw
    try dsimp only at hSw
    simp only [List.getElem_toArray, List.getElem_cons_succ, List.getElem_cons_zero]
    go_simp
    try with_reducible rfl
  simp only [List.getElem_toArray, List.getElem_cons_succ, List.getElem_cons_zero, Act.put, List.setIfInBounds_toArray, List.set_cons_zero, List.set_cons_succ]
  refine wpAnyH_take (i := 16) (v := ?_) rfl (by kernel_rfl) (by kernel_rfl) (by kernel_rfl) (fun _ _ _ h => h) (Or.inl ⟨by rfl, ?_⟩) (by assumption) ?_
  rotate_left
  · intro w hSw
    try dsimp only at hSw
    simp only [List.getElem_toArray, List.getElem_cons_succ, List.getElem_cons_zero]
    go_simp
    try with_reducible rfl
  simp only [List.getElem_toArray, List.getElem_cons_succ, List.getElem_cons_zero, Act.put, List.setIfInBounds_toArray, List.set_cons_zero, List.set_cons_succ]
  refine wpAnyH_take (i := 17) (v := ?_) rfl (by kernel_rfl) (by kernel_rfl) (by kernel_rfl) (fun _ _ _ h => h) (Or.inl ⟨by rfl, ?_⟩) (by assumption) ?_
  rotate_left
  · intro w hSw
    try dsimp only at hSw
    simp only [List.getElem_toArray, List.getElem_cons_succ, List.getElem_cons_zero]
    go_simp
    try with_reducible rfl
  simp only [List.getElem_toArray, List.getElem_cons_succ, List.getElem_cons_zero, Act.put, List.setIfInBounds_toArray, List.set_cons_zero, List.set_cons_succ]
  refine wpAnyH_take (i := 18) (v := ?_) rfl (by kernel_rfl) (by kernel_rfl) (by kernel_rfl) (fun _ _ _ h => h) (Or.inl ⟨by rfl, ?_⟩) (by assumption) ?_
  rotate_left
  · intro w hSw
    try dsimp only at hSw
    simp only [List.getElem_toArray, List.getElem_cons_succ, List.getElem_cons_zero]
    go_simp
    try with_reducible rfl
  simp only [List.getElem_toArray, List.getElem_cons_succ, List.getElem_cons_zero, Act.put, List.setIfInBounds_toArray, List.set_cons_zero, List.set_cons_succ]
  refine wpAnyH_take (i := 19) (v := ?_) rfl (by kernel_rfl) (by kernel_rfl) (by kernel_rfl) (fun _ _ _ h => h) (Or.inl ⟨by rfl, ?_⟩) (by assumption) ?_
  rotate_left
  · intro w hSw
    try dsimp only at hSw
    simp only [List.getElem_toArray, List.getElem_cons_succ, List.getElem_cons_zero]
    go_simp
    try with_reducible rfl
  simp only [List.getElem_toArray, List.getElem_cons_succ, List.getElem_cons_zero, Act.put, List.setIfInBounds_toArray, List.set_cons_zero, List.set_cons_succ]
  refine wpAnyH_take (i := 20) (v := ?_) rfl (by kernel_rfl) (by kernel_rfl) (by kernel_rfl) (fun _ _ _ h => h) (Or.inl ⟨by rfl, ?_⟩) (by assumption) ?_
  rotate_left
  · intro w hSw
    try dsimp only at hSw
    simp only [List.getElem_toArray, List.getElem_cons_succ, List.getElem_cons_zero]
    go_simp
    try with_reducible rfl
  simp only [List.getElem_toArray, List.getElem_cons_succ, List.getElem_cons_zero, Act.put, List.setIfInBounds_toArray, List.set_cons_zero, List.set_cons_succ]
  refine wpAnyH_take (i := 21) (v := ?_) rfl (by kernel_rfl) (by kernel_rfl) (by kernel_rfl) (fun _ _ _ h => h) (Or.inl ⟨by rfl, ?_⟩) (by assumption) ?_
  rotate_left
  · intro w hSw
    try dsimp only at hSw
    simp only [List.getElem_toArray, List.getElem_cons_succ, List.getElem_cons_zero]
    go_simp
    try with_reducible rfl
  simp only [List.getElem_toArray, List.getElem_cons_succ, List.getElem_cons_zero, Act.put, List.setIfInBounds_toArray, List.set_cons_zero, List.set_cons_succ]
  refine wpAnyH_take (i := 22) (v := ?_) rfl (by kernel_rfl) (by kernel_rfl) (by kernel_rfl) (fun _ _ _ h => h) (Or.inl ⟨by rfl, ?_⟩) (by assumption) ?_
  rotate_left
  · intro w hSw
    try dsimp only at hSw
    simp only [List.getElem_toArray, List.getElem_cons_succ, List.getElem_cons_zero]
    go_simp
    try with_reducible rfl
  simp only [List.getElem_toArray, List.getElem_cons_succ, List.getElem_cons_zero, Act.put, List.setIfInBounds_toArray, List.set_cons_zero, List.set_cons_succ]
  refine wpAnyH_take (i := 23) (v := ?_) rfl (by kernel_rfl) (by kernel_rfl) (by kernel_rfl) (fun _ _ _ h => h) (Or.inl ⟨by rfl, ?_⟩) (by assumption) ?_
  rotate_left
  · intro w hSw
    try dsimp only at hSw
    simp only [List.getElem_toArray, List.getElem_cons_succ, List.getElem_cons_zero]
    go_simp
    try with_reducible rfl
  simp only [List.getElem_toArray, List.getElem_cons_succ, List.getElem_cons_zero, Act.put, List.setIfInBounds_toArray, List.set_cons_zero, List.set_cons_succ]
  refine wpAnyH_take (i := 24) (v := ?_) rfl (by kernel_rfl) (by kernel_rfl) (by kernel_rfl) (fun _ _ _ h => h) (Or.inl ⟨by rfl, ?_⟩) (by assumption) ?_
  rotate_left
  · intro w hSw
    try dsimp only at hSw
    simp only [List.getElem_toArray, List.getElem_cons_succ, List.getElem_cons_zero]
    go_simp
    try with_reducible rfl
  simp only [List.getElem_toArray, List.getElem_cons_succ, List.getElem_cons_zero, Act.put, List.setIfInBounds_toArray, List.set_cons_zero, List.set_cons_succ]
  refine wpAnyH_take (i := 25) (v := ?_) rfl (by kernel_rfl) (by kernel_rfl) (by kernel_rfl) (fun _ _ _ h => h) (Or.inl ⟨by rfl, ?_⟩) (by assumption) ?_
  rotate_left
  · intro w hSw
    try dsimp only at hSw
    simp only [List.getElem_toArray, List.getElem_cons_succ, List.getElem_cons_zero]
    go_simp
    try with_reducible rfl
  simp only [List.getElem_toArray, List.getElem_cons_succ, List.getElem_cons_zero, Act.put, List.setIfInBounds_toArray, List.set_cons_zero, List.set_cons_succ]
  refine wpAnyH_take (i := 26) (v := ?_) rfl (by kernel_rfl) (by kernel_rfl) (by kernel_rfl) (fun _ _ _ h => h) (Or.inl ⟨by rfl, ?_⟩) (by assumption) ?_
  rotate_left
  · intro w hSw
    try dsimp only at hSw
    simp only [List.getElem_toArray, List.getElem_cons_succ, List.getElem_cons_zero]
    go_simp
    try with_reducible rfl
  simp only [List.getElem_toArray, List.getElem_cons_succ, List.getElem_cons_zero, Act.put, List.setIfInBounds_toArray, List.set_cons_zero, List.set_cons_succ]
  refine wpAnyH_take (i := 27) (v := ?_) rfl (by kernel_rfl) (by kernel_rfl) (by kernel_rfl) (fun _ _ _ h => h) (Or.inl ⟨by rfl, ?_⟩) (by assumption) ?_
  rotate_left
  · intro w hSw
    try dsimp only at hSw
    simp only [List.getElem_toArray, List.getElem_cons_succ, List.getElem_cons_zero]
    go_simp
    try with_reducible rfl
  simp only [List.getElem_toArray, List.getElem_cons_succ, List.getElem_cons_zero, Act.put, List.setIfInBounds_toArray, List.set_cons_zero, List.set_cons_succ]
  refine wpAnyH_take (i := 28) (v := ?_) rfl (by kernel_rfl) (by kernel_rfl) (by kernel_rfl) (fun _ _ _ h => h) (Or.inl ⟨by rfl, ?_⟩) (by assumption) ?_
  rotate_left
  · intro w hSw
    try dsimp only at hSw
    simp only [List.getElem_toArray, List.getElem_cons_succ, List.getElem_cons_zero]
    go_simp
    try with_reducible rfl
  simp only [List.getElem_toArray, List.getElem_cons_succ, List.getElem_cons_zero, Act.put, List.setIfInBounds_toArray, List.set_cons_zero, List.set_cons_succ]
  refine wpAnyH_take (i := 29) (v := ?_) rfl (by kernel_rfl) (by kernel_rfl) (by kernel_rfl) (fun _ _ _ h => h) (Or.inl ⟨by rfl, ?_⟩) (by assumption) ?_
  rotate_left
  · intro w hSw
    try dsimp only at hSw
    simp only [List.getElem_toArray, List.getElem_cons_succ, List.getElem_cons_zero]
    go_simp
    try with_reducible rfl
  simp only [List.getElem_toArray, List.getElem_cons_succ, List.getElem_cons_zero, Act.put, List.setIfInBounds_toArray, List.set_cons_zero, List.set_cons_succ]
  refine wpAnyH_take (i := 30) (v := ?_) rfl (by kernel_rfl) (by kernel_rfl) (by kernel_rfl) (fun _ _ _ h => h) (Or.inl ⟨by rfl, ?_⟩) (by assumption) ?_
  rotate_left
  · intro w hSw
    try dsimp only at hSw
    simp only [List.getElem_toArray, List.getElem_cons_succ, List.getElem_cons_zero]
    go_simp
    try with_reducible rfl
  simp only [List.getElem_toArray, List.getElem_cons_succ, List.getElem_cons_zero, Act.put, List.setIfInBounds_toArray, List.set_cons_zero, List.set_cons_succ]
  refine wpAnyH_take (i := 31) (v := ?_) rfl (by kernel_rfl) (by kernel_rfl) (by kernel_rfl) (fun _ _ _ h => h) (Or.inl ⟨by rfl, ?_⟩) (by assumption) ?_
  rotate_left
  · intro w hSw
    try dsimp only at hSw
    simp only [List.getElem_toArray, List.getElem_cons_succ, List.getElem_cons_zero]
    go_simp
    try with_reducible rfl
  simp only [List.getElem_toArray, List.getElem_cons_succ, List.getElem_cons_zero, Act.put, List.setIfInBounds_toArray, List.set_cons_zero, List.set_cons_succ]
  refine wpAnyH_take (i := 32) (v := ?_) rfl (by kernel_rfl) (by kernel_rfl) (by kernel_rfl) (fun _ _ _ h => h) (Or.inl ⟨by rfl, ?_⟩) (by assumption) ?_
  rotate_left
  · intro w hSw
    try dsimp only at hSw
    simp only [List.getElem_toArray, List.getElem_cons_succ, List.getElem_cons_zero]
    go_simp
    try with_reducible rfl
  simp only [List.getElem_toArray, List.getElem_cons_succ, List.getElem_cons_zero, Act.put, List.setIfInBounds_toArray, List.set_cons_zero, List.set_cons_succ]
  refine wpAnyH_take (i := 33) (v := ?_) rfl (by kernel_rfl) (by kernel_rfl) (by kernel_rfl) (fun _ _ _ h => h) (Or.inl ⟨by rfl, ?_⟩) (by assumption) ?_
  rotate_left
  · intro w hSw
    try dsimp only at hSw
    simp only [List.getElem_toArray, List.getElem_cons_succ, List.getElem_cons_zero]
    go_simp
    try with_reducible rfl
  simp only [List.getElem_toArray, List.getElem_cons_succ, List.getElem_cons_zero, Act.put, List.setIfInBounds_toArray, List.set_cons_zero, List.set_cons_succ]
  refine wpAnyH_take (i := 34) (v := ?_) rfl (by kernel_rfl) (by kernel_rfl) (by kernel_rfl) (fun _ _ _ h => h) (Or.inl ⟨by rfl, ?_⟩) (by assumption) ?_
  rotate_left
  · intro w hSw
    try dsimp only at hSw
    simp only [List.getElem_toArray, List.getElem_cons_succ, List.getElem_cons_zero]
    go_simp
    try with_reducible rfl
  simp only [List.getElem_toArray, List.getElem_cons_succ, List.getElem_cons_zero, Act.put, List.setIfInBounds_toArray, List.set_cons_zero, List.set_cons_succ]
  refine wpAnyH_ready (rs := [35]) (by kernel_rfl) (by simp) ?_
  refine AllReadyH.cons rfl (fun K hK => ?_) AllReadyH.nil
  try simp only [List.getElem_toArray, List.getElem_cons_succ, List.getElem_cons_zero]
  go_simp
  go_at_call 16
  refine (refEncode_c ⟨45, 0, 0, 0, 0, 0⟩ (by decide) _).mono ?_
  rintro e w8 ⟨s8, rfl, ⟨A8, c8, rfl, _⟩, hb8⟩
  have kg := HS.out w8 (((Only.refl _ w7).drew).trans (Only.of_below hb8) (fun _ _ h => h))
  refine hK.out _ _ (by exact kg) (fun hHeld => ?_)
  clear hK K
  try simp only [List.getElem_toArray, List.getElem_cons_succ, List.getElem_cons_zero, Act.put, List.setIfInBounds_toArray, List.set_cons_zero, List.set_cons_succ]
  refine wpAnyH_take (i := 36) (v := ?_) rfl (by kernel_rfl) (by kernel_rfl) (by kernel_rfl) (fun _ _ _ h => h) (Or.inl ⟨by rfl, ?_⟩) (by assumption) ?_
  rotate_left
  · intro w hSw
    try dsimp only at hSw
    simp only [List.getElem_toArray, List.getElem_cons_succ, List.getElem_cons_zero]
    go_simp
    try with_reducible rfl
  simp only [List.getElem_toArray, List.getElem_cons_succ, List.getElem_cons_zero, Act.put, List.setIfInBounds_toArray, List.set_cons_zero, List.set_cons_succ]
  refine wpAnyH_take (i := 37) (v := ?_) rfl (by kernel_rfl) (by kernel_rfl) (by kernel_rfl) (fun _ _ _ h => h) (Or.inl ⟨by rfl, ?_⟩) (by assumption) ?_
  rotate_left
  · intro w hSw
    try dsimp only at hSw
    simp only [List.getElem_toArray, List.getElem_cons_succ, List.getElem_cons_zero]
    go_simp
    try with_reducible rfl
  simp only [List.getElem_toArray, List.getElem_cons_succ, List.getElem_cons_zero, Act.put, List.setIfInBounds_toArray, List.set_cons_zero, List.set_cons_succ]
  refine wpAnyH_take (i := 38) (v := ?_) rfl (by kernel_rfl) (by kernel_rfl) (by kernel_rfl) (fun _ _ _ h => h) (Or.inl ⟨by rfl, ?_⟩) (by assumption) ?_
  rotate_left
  · intro w hSw
    try dsimp only at hSw
    simp only [List.getElem_toArray, List.getElem_cons_succ, List.getElem_cons_zero]
    go_simp
    try with_reducible rfl
  simp only [List.getElem_toArray, List.getElem_cons_succ, List.getElem_cons_zero, Act.put, List.setIfInBounds_toArray, List.set_cons_zero, List.set_cons_succ]
  refine wpAnyH_take (i := 39) (v := ?_) rfl (by kernel_rfl) (by kernel_rfl) (by kernel_rfl) (fun _ _ _ h => h) (Or.inl ⟨by rfl, ?_⟩) (by assumption) ?_
  rotate_left
  · intro w hSw
    try dsimp only at hSw
    simp only [List.getElem_toArray, List.getElem_cons_succ, List.getElem_cons_zero]
    go_simp
    try with_reducible rfl
  simp only [List.getElem_toArray, List.getElem_cons_succ, List.getElem_cons_zero, Act.put, List.setIfInBounds_toArray, List.set_cons_zero, List.set_cons_succ]
  refine wpAnyH_done (by kernel_rfl) ?_ _
  go_wp2_with fail
  go_ret
  refine ⟨rfl, HB7.out.trans ((((Only.refl (fun _ => False) w7).drew).trans (Only.of_below hb8) (fun _ _ h => h)).below HB7.out.size (fun _ h => h.elim))⟩
theorem chipStops_top (v0 v1 : Value) (w : World) (u0 : Vw.Arg Try.prog w 3 v0) (u1 : Vw.Arg Try.prog w 41 v1) :
    Calls Try.prog 7 #[v0, v1] w fun e w' => e = .returned (.bool true) ∧ Below w.heap.size w w' := by
  obtain ⟨x, rfl, _⟩ := u0.int Try.underlying3
  obtain ⟨n, rfl, hn⟩ := u1.int Try.underlying41
  simp [Lit.wf, IntKind.min, IntKind.max, IntKind.signed, IntKind.bits] at hn
  exact chipStops_c w x n (x % 32768) (by unfold U; omega) (by omega) (by omega) (pickN x 32768 (by decide) (by decide) w)
end Go.Proofs.Ytpihjhfaeloapaa
