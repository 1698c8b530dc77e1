/- MERGED by mergev.py: XSc XSd. -/
import Derived.Test.YtpihjhfaeloapaaVk
namespace Go.Proofs.Ytpihjhfaeloapaa
open Go.RowKit On Th
set_option maxHeartbeats 16000000 in
set_option maxRecDepth 100000 in
def rsw : {G : Int → Prop // (∀ op, G op) → ∀ (w : World) (c : Ch) (rm rg up : Nat) (f : Nat → Int) (mp : Value) (ug : Option Nat) (L : List Ev) (_ : c.ok) (_ : Mm w 78 rm rg f) (_ : Us w up ug L) (_ : L.length < 200000) (_ : c.st = 0)
    (_ : ∀ (s : Value) (hs : List Int) (w : World), Hw w s hs → Calls Try.prog 42 #[s] w fun e w' => ∃ (i : Ins) (k : Int), e = .returned (.tuple #[.agg #[.int .i64 i.op, .int .i64 i.d, .int .i64 i.n, .int .i64 i.m, .int .i64 i.imm, .int .i64 i.cond], .int .i64 k]) ∧ Below w.heap.size w w' ∧ ((k = 0 ∧ decS hs = (i, 0, 7)) ∨ (k = -1 ∧ decS hs = (i, 0, 8)) ∨ (k = 1 ∧ decS hs = (i, 1, 0)) ∨ (k = 2 ∧ decS hs = (i, 2, 0)))), Calls Try.prog 22 #[.agg c.cells.toArray, .pointer (some ⟨rm, 0, none⟩), .pointer (some ⟨up, 0, none⟩)] w fun e w' => RStepP mp rm rg up ug c f L w e w'} := by
  apply Subtype.mk
  · intro hG w c rm rg up f mp ug L hok hm hu hL hst hdec
    have HM := Lib.hid hm; have HOK := Lib.hid hok; have HU := Lib.hid hu; have HL := Lib.hid hL
    clear hm hok hu hL
    obtain ⟨wa, hwa⟩ : ∃ wa, wa = (w.alloc (.cells c.cells.toArray 44)).alloc (.cells #[.int .u32 0, .int .u32 0, .int .u32 0, .int .u32 0, .int .u32 0, .int .u32 0, .int .u32 0, .int .u32 0, .int .u32 0, .int .u32 0, .int .u32 0, .int .u32 0, .int .u32 0, .int .u32 0, .int .u32 0, .int .u32 0, .bool false, .bool false, .bool false, .bool false, .int .i64 0, .int .i64 0, .int .i64 0] 44) := ⟨_, rfl⟩
    have HMA : Hid (Mm wa 78 rm rg f) := by
      rw [hwa]
      exact rm_only (S := fun _ => False) HM.out (((Only.refl _ w).alloc _).alloc _) id id
    have HOW0 : Hid (Only (fun _ => False) w wa) := by rw [hwa]; exact ((Only.refl (fun _ => False) w).alloc _).alloc _
    have HRS : Hid (Blk wa (w.heap.size + 1) 44 #[.int .u32 0, .int .u32 0, .int .u32 0, .int .u32 0, .int .u32 0, .int .u32 0, .int .u32 0, .int .u32 0, .int .u32 0, .int .u32 0, .int .u32 0, .int .u32 0, .int .u32 0, .int .u32 0, .int .u32 0, .int .u32 0, .bool false, .bool false, .bool false, .bool false, .int .i64 0, .int .i64 0, .int .i64 0]) := by rw [hwa]; exact Blk.new' _ _ _ _ (by show w.heap.size + 1 = (w.heap.push _).size; rw [Array.size_push])
    have HUA : Hid (Us wa up ug L) := by rw [hwa]; exact HU.out.keep (((Only.refl (fun _ => False) w).alloc _).alloc _) (fun _ _ => id)
    have HCP : Hid (ChW wa w.heap.size c) := by rw [hwa]; exact ⟨(Blk.new w _ _).alloc _, HOK.out⟩
    go_enter Try.func22, Try.ntmps22
    go_upto_region 1 with (fail)
    rw [← hwa]
    clear hwa
    have q20 := HCP.out.rest.2.2.2.2.1
    rw [hst] at q20
    have q15 := HCP.out.reg (k := 15) (by omega)
    have hu15 := HCP.out.2.reg (k := 15) (by omega)
    obtain ⟨pc0, hpc⟩ : ∃ x, c.R.getD 15 0 = x := ⟨_, rfl⟩
    rw [hpc] at q15 hu15
    obtain ⟨hu0, hu1⟩ := hu15
    have HM2 : Hid (Mm wa 78 rm rg f) := HMA.out
    obtain ⟨i0, hi0, hz0, hz1, hz2⟩ := info_parts2 info_u16
    have HFR : Hid (∀ i, 0 ≤ f i ∧ f i ≤ 255) := HM.out.2.range
    clear HMA
    go_upto_region 4 with (fail)
    go_upto_block 0 with (fail)
    go_cut [8] (fun v wx => ∃ (B : Option Addr) (d q : Nat), v = .slice B q d ∧ wx.ownsRow wa.heap.size 79 1 (.slice B q d) q ((hsTo f pc0 2).map (Value.int .u16)) ∧ Below wa.heap.size wa wx)
    case first =>
      go_wp2_with fail
      go_loopw [8, 9] (fun v i wx => ∃ (k : Nat) (B : Option Addr) (d q : Nat), k ≤ 2 ∧ q ≤ k ∧ i = .int .i64 k ∧ v = .slice B q d ∧ wx.ownsRow wa.heap.size 79 1 (.slice B q d) q ((hsTo f pc0 k).map (Value.int .u16)) ∧ Below wa.heap.size wa wx) (fun _ i _ => 2 - (intOf i).toNat)
      case atStart => exact ⟨0, none, 0, 0, by omega, by omega, rfl, rfl, World.ownsRow_nil _ _ _ _, Below.refl _ _⟩
      case round =>
        obtain ⟨k, B, d, q, hk, hqk, rfl, rfl, ho, hb⟩ := hrel
        have HO := Lib.hid ho; have HB := Lib.hid hb
        have HMr := Lib.hid (rm_only (S := fun _ => False) HM2.out (Only.of_below hb) id id)
        clear ho hb
        by_cases hlt : k < 2
        · have HH := Lib.hid (rhalf_c wr rm rg f (pc0 + 2 * k) HMr.out)
          have HHR := Lib.hid (halfS_R HFR.out (pc0 + 2 * k))
          have HST := Lib.hid (fun h => hs_stop f pc0 hu0 hlt h)
          have HGO := Lib.hid (fun h => hs_go f pc0 (k := k) h)
          have hlt' : (k : Int) < 2 := by omega
          generalize halfS f (pc0 + 2 * k) = z at *
          obtain ⟨x, ok⟩ := z
          dsimp only at HH HST HGO HHR
          clear hlt
          go_wp2_with fail
          refine (HH.out).mono ?_
          rintro e w2 ⟨rfl, q2, rfl⟩
          have HO2 := Lib.hid (own_only HO.out ((Only.refl (fun _ => False) wr).drewN q2) (fun _ _ => id))
          have HB2 : Hid (Below wa.heap.size wa (wr.drewN q2)) := HB.out.trans (((Only.refl (fun _ => False) wr).drewN q2).below HB.out.size (fun _ h => h.elim))
          obtain ⟨w2, hw2⟩ : ∃ w2, w2 = wr.drewN q2 := ⟨_, rfl⟩
          rw [← hw2] at HO2 HB2 ⊢
          clear hw2 HH HMr HO HB
          cases ok
          · go_wp2_with fail
            go_meet
            exact ⟨B, d, q, rfl, by rw [HST.out (by first | trivial | rfl)]; exact HO2.out, HB2.out⟩
          · have hsz2 := HB2.out.size
            go_wp2_with (at_builtin; go_loud (refine wpList_append_at _ rfl (.tmp 69) (.tmp 71) _ rfl wa.heap.size 79 i0 _ 1 2 Try.underlying24 hi0 hz0 hz1 hz2 rfl (by omega) _ q ((hsTo f pc0 k).map (Value.int .u16)) rfl (own_only HO2.out ((Only.refl (fun _ => False) w2).alloc _) (fun _ _ => id)) (some ⟨w2.heap.size, 0, none⟩) 1 1 _ rfl (Src.block w2 79 1 [.int .u16 x] rfl (by simp [Value.oneCell']) (0, 0)) (by simp) (by unfold maxLen; omega) (by omega) (by simp; omega) ?_))
            intro A5 c5 w5 hown5 hg5 hn5
            have HB5 : Hid (Below wa.heap.size wa w5) := HB2.out.trans ((((Only.refl (fun j => wa.heap.size ≤ j) w2).alloc (.cells #[.int .u16 x] 79)).grown hg5 (fun j hj => .inl (HO2.out.lt j hj).1)).below hsz2 (fun j h => h))
            have HO5 : Hid (w5.ownsRow wa.heap.size 79 1 (.slice A5 (q + 1) c5) (q + 1) ((hsTo f pc0 (k + 1)).map (Value.int .u16))) := by
              show World.ownsRow _ _ _ _ _ _ _
              rw [HGO.out (by first | trivial | rfl), List.map_append]; exact hown5
            clear hown5 hg5 hn5
            go_wp2_with fail
            exact ⟨⟨k + 1, A5, c5, q + 1, by omega, by omega, by go_num, rfl, HO5.out, HB5.out⟩, by simp [intOf]; omega⟩
        · have hk2 : k = 2 := by omega
          subst hk2
          clear hlt
          go_wp2_with fail
          go_meet
          exact ⟨B, d, q, rfl, HO.out, HB.out⟩
    case rest =>
      obtain ⟨B, d, q, rfl, ho, hb⟩ := hcut
      have HHW := Lib.hid (own_hw ho (fun x hx => hsTo_R HFR.out pc0 2 x hx))
      have HBC := Lib.hid hb
      clear ho hb
      go_wp2_with fail
      refine (hdec _ _ _ HHW.out).mono ?_
      rintro e w3 ⟨i, k, rfl, hb3, hk⟩
      have HF : Hid (fetchS f pc0 = decS (hsTo f pc0 2)) := rfl
      generalize decS (hsTo f pc0 2) = dz at *
      have HB3 : Hid (Below wa.heap.size wa w3) := HBC.out.trans (hb3.mono HBC.out.size)
      clear hb3 HBC HHW hdec
      obtain ⟨op, dd, nn, mm, imm, cond⟩ := i
      dsimp only
      have HC3 : Hid (ChW w3 w.heap.size c) := HCP.out.only (S := fun _ => False) (Only.of_below HB3.out) id
      have HCX := Lib.hid (fun (wq : World) (hq : Only (fun _ => False) w3 wq) => HC3.out.only hq id)
      have hk2 : (k < 1 ∧ ∃ n er, dz = (⟨op, dd, nn, mm, imm, cond⟩, n, er) ∧ er ≠ 0) ∨ (1 ≤ k ∧ k ≤ 2 ∧ dz = (⟨op, dd, nn, mm, imm, cond⟩, k, 0)) := by
        rcases hk with ⟨rfl, hd⟩ | ⟨rfl, hd⟩ | ⟨rfl, hd⟩ | ⟨rfl, hd⟩
        · exact .inl ⟨by omega, _, _, hd, by decide⟩
        · exact .inl ⟨by omega, _, _, hd, by decide⟩
        · exact .inr ⟨by omega, by omega, hd⟩
        · exact .inr ⟨by omega, by omega, hd⟩
      clear hk
      rcases hk2 with ⟨hk1, n0, er, hd, her⟩ | ⟨hk1, hk2, hd⟩
      · have hS : stepS mp c f = ({ c with st := 2 }, f, []) := by
          unfold stepS
          rw [if_pos hst, hpc, HF.out, hd]
          dsimp only
          rw [if_neg her]
        have HS := Lib.hid hS
        clear hS hd her HF
        go_upto_region 13 with (fail)
        obtain ⟨w4, hw4⟩ : ∃ w4, w4 = w3.alloc (.cells #[.int .i64 op, .int .i64 dd, .int .i64 nn, .int .i64 mm, .int .i64 imm, .int .i64 cond] 36) := ⟨_, rfl⟩
        have hO4 : Only (fun _ => False) w3 w4 := by rw [hw4]; exact (Only.refl _ _).alloc _
        rw [← hw4]
        clear hw4
        have hO3 : Only (fun _ => False) wa w4 := (Only.of_below HB3.out).trans hO4 (fun _ _ h => h)
        have HC4 := Lib.hid (HCX.out w4 hO4)
        clear hO4
        have hrg : rg < w.heap.size := by
          obtain ⟨_, cs, hc, _⟩ := HM.out
          exact hc.lt
        have q20' := HC4.out.rest.2.2.2.2.1
        have hf20 := HC4.out.1.frozen 20
        have HC := Lib.hid (HC4.out.setSt 2)
        have HRR := Lib.hid (HRS.out.only hO3 id)
        have HM3 := Lib.hid (rm_only HM2.out hO3 id id)
        have HUX := Lib.hid (HUA.out.keep hO3 (fun _ _ => id))
        have HOW : Hid (Only (fun j => j = rg) w w4) := (HOW0.out.trans hO3 (fun _ _ h => h)).mono (fun _ _ h => h.elim)
        clear hO3 HC3 HC4 HCX HRS HUA HOW0 HB3 HM2 HFR q20 q15 HCP
        go_upto_region 14 with (fail)
        obtain ⟨wB, hwB⟩ : ∃ wB, wB = w4.setCell ⟨w.heap.size, 20, none⟩ (.int .i64 2) := ⟨_, rfl⟩
        have hOB : Only (fun j => j = w.heap.size) w4 wB := by rw [hwB]; exact Only.setCell (p := ⟨w.heap.size, 20, none⟩) (Only.refl (fun j => j = w.heap.size) w4) (.inl rfl) _
        have HCB : Hid (ChW wB w.heap.size { c with st := 2 }) := by rw [hwB]; exact HC.out
        have HRB : Hid (Blk wB (w.heap.size + 1) 44 #[.int .u32 0, .int .u32 0, .int .u32 0, .int .u32 0, .int .u32 0, .int .u32 0, .int .u32 0, .int .u32 0, .int .u32 0, .int .u32 0, .int .u32 0, .int .u32 0, .int .u32 0, .int .u32 0, .int .u32 0, .int .u32 0, .bool false, .bool false, .bool false, .bool false, .int .i64 0, .int .i64 0, .int .i64 0]) := HRR.out.only hOB (by omega)
        have HMB := Lib.hid (rm_only HM3.out hOB (by have := HM.out.1.lt; omega) (by omega))
        have HUB := Lib.hid (HUX.out.keep hOB (by intro k hk e; have := HU.out.lt k hk; omega))
        have HOB : Hid (Only (fun j => j = rg) w wB) := HOW.out.trans hOB (by intro i hi e; omega)
        rw [← hwB]
        clear hwB hOB HC HRR HM3 HUX HOW
        obtain ⟨AG, hAG⟩ : ∃ AG : List Value, AG = ({ c with st := 2 } : Ch).cells := ⟨_, rfl⟩
        have HROW := Lib.hid (chip_row (c := { c with st := 2 }) HCB.out.2)
        have HRG : Hid (wB.rangeAt w.heap.size 0 AG) := fun j v hv => by
          rw [hAG] at hv
          rw [Nat.zero_add, HCB.out.1.cell, List.getElem?_toArray]; exact hv
        rw [← hAG] at HROW
        have HAG := Lib.hid hAG
        clear hAG
        go_wp2_with (first | refine wpList_load_mid rfl 44 _ rfl w.heap.size 0 rfl AG _ HRG.out Try.underlying44 rfl HROW.out.1 ?_ | refine wpList_store_row rfl 44 _ _ rfl (w.heap.size + 1) AG.toArray rfl rfl 44 #[.int .u32 0, .int .u32 0, .int .u32 0, .int .u32 0, .int .u32 0, .int .u32 0, .int .u32 0, .int .u32 0, .int .u32 0, .int .u32 0, .int .u32 0, .int .u32 0, .int .u32 0, .int .u32 0, .int .u32 0, .int .u32 0, .bool false, .bool false, .bool false, .bool false, .int .i64 0, .int .i64 0, .int .i64 0] HRB.out HROW.out.2.1 HROW.out.2.2.1 HROW.out.2.2.2 ?_)
        have HRZ : Blk (wB.setRow (w.heap.size + 1) AG.toArray) (w.heap.size + 1) 44 AG.toArray := setRow_heap _ _ _ _ _ _ HRB.out
        have HOZ := setRow_only wB (w.heap.size + 1) AG.toArray
        obtain ⟨wZ2, hwZ2⟩ : ∃ wZ2, wZ2 = wB.setRow (w.heap.size + 1) AG.toArray := ⟨_, rfl⟩
        rw [← hwZ2] at HRZ HOZ ⊢
        refine bodyPost_ret (results_cell_row rfl _ _ (w.heap.size + 1) 44 AG.toArray (0, 0) _ (by rfl) HRZ Try.underlying44 rfl HROW.out.2.1) rfl ?_
        unfold RStepP
        rw [HS.out]
        dsimp only
        refine ⟨by rw [HAG.out], rm_only HMB.out HOZ (by have := HM.out.1.lt; omega) (by omega), ug, ?_, .inl rfl, HOB.out.trans HOZ (by intro i hi e; omega) |>.mono (fun _ _ h => .inl h)⟩
        rw [List.append_nil]
        exact HUB.out.keep HOZ (by intro k hk e; have := HU.out.lt k hk; omega)
      · rw [hd] at HF
        clear hd
        have HIR := Lib.hid (dec_R (hs := hsTo f pc0 2) HF.out)
        have HRT := Lib.hid (dec_rt (hs := hsTo f pc0 2) HF.out)
        go_upto_region 15 with (fail)
        have KI := Lib.hid (Blk.new w3 36 #[.int .i64 op, .int .i64 dd, .int .i64 nn, .int .i64 mm, .int .i64 imm, .int .i64 cond])
        obtain ⟨w4, hw4⟩ : ∃ w4, w4 = w3.alloc (.cells #[.int .i64 op, .int .i64 dd, .int .i64 nn, .int .i64 mm, .int .i64 imm, .int .i64 cond] 36) := ⟨_, rfl⟩
        have HO4 : Hid (Only (fun _ => False) w3 w4) := by rw [hw4]; exact (Only.refl _ _).alloc _
        obtain ⟨ip, hip⟩ : ∃ ip, ip = w3.heap.size := ⟨_, rfl⟩
        rw [← hw4, ← hip] at KI
        rw [← hw4, ← hip]
        clear hw4 hip
        have HC4 := Lib.hid (HCX.out w4 HO4.out)
        obtain ⟨AG, hAG⟩ : ∃ AG : List Value, AG = c.cells := ⟨_, rfl⟩
        have HRG : Hid (w4.rangeAt w.heap.size 0 AG) := fun j v hv => by
          rw [hAG] at hv
          rw [Nat.zero_add, HC4.out.1.cell, List.getElem?_toArray]; exact hv
        have HSZ2 : Hid ((Try.prog.info? 44).map (·.size) = some AG.length) := by show _ = _; rw [hAG, info_chip, Ch.cells_len HOK.out]
        have HSZ3 : Hid ((Try.prog.info? 44).map (·.size) = some AG.toArray.size) := by show _ = _; rw [hAG, info_chip, List.size_toArray, Ch.cells_len HOK.out]
        have HSZ4 : Hid ((#[.int .u32 0, .int .u32 0, .int .u32 0, .int .u32 0, .int .u32 0, .int .u32 0, .int .u32 0, .int .u32 0, .int .u32 0, .int .u32 0, .int .u32 0, .int .u32 0, .int .u32 0, .int .u32 0, .int .u32 0, .int .u32 0, .bool false, .bool false, .bool false, .bool false, .int .i64 0, .int .i64 0, .int .i64 0] : Array Value).size = AG.toArray.size) := by
          have e : AG.toArray.size = 23 := by rw [hAG, List.size_toArray, Ch.cells_len HOK.out]
          show _ = _
          rw [e]; rfl
        have HONE : Hid (AG.toArray.all (·.oneCell') = true) := by show _ = _; rw [hAG]; exact Ch.cells_one c
        have HAG := Lib.hid hAG
        clear hAG
        go_upto_region 16 with (first | refine wpList_load_mid rfl 44 _ rfl w.heap.size 0 rfl AG _ HRG.out Try.underlying44 rfl HSZ2.out ?_ | refine wpList_store_row rfl 44 _ _ rfl w4.heap.size AG.toArray rfl rfl 44 #[.int .u32 0, .int .u32 0, .int .u32 0, .int .u32 0, .int .u32 0, .int .u32 0, .int .u32 0, .int .u32 0, .int .u32 0, .int .u32 0, .int .u32 0, .int .u32 0, .int .u32 0, .int .u32 0, .int .u32 0, .int .u32 0, .bool false, .bool false, .bool false, .bool false, .int .i64 0, .int .i64 0, .int .i64 0] (Blk.new w4 _ _) HSZ3.out HSZ4.out HONE.out ?_)
        obtain ⟨wZ, hwZ⟩ : ∃ wZ, wZ = w4.alloc (.cells #[.int .u32 0, .int .u32 0, .int .u32 0, .int .u32 0, .int .u32 0, .int .u32 0, .int .u32 0, .int .u32 0, .int .u32 0, .int .u32 0, .int .u32 0, .int .u32 0, .int .u32 0, .int .u32 0, .int .u32 0, .int .u32 0, .bool false, .bool false, .bool false, .bool false, .int .i64 0, .int .i64 0, .int .i64 0] 44) := ⟨_, rfl⟩
        have hBZ : Blk wZ w4.heap.size 44 #[.int .u32 0, .int .u32 0, .int .u32 0, .int .u32 0, .int .u32 0, .int .u32 0, .int .u32 0, .int .u32 0, .int .u32 0, .int .u32 0, .int .u32 0, .int .u32 0, .int .u32 0, .int .u32 0, .int .u32 0, .int .u32 0, .bool false, .bool false, .bool false, .bool false, .int .i64 0, .int .i64 0, .int .i64 0] := by rw [hwZ]; exact Blk.new w4 _ _
        have hOZ : Only (fun _ => False) w4 wZ := by rw [hwZ]; exact (Only.refl _ _).alloc _
        rw [← hwZ]
        have hXA : Blk (wZ.setRow w4.heap.size AG.toArray) w4.heap.size 44 AG.toArray := setRow_heap _ _ _ _ _ _ hBZ
        have hOX : Only (fun k => k = w4.heap.size) wZ (wZ.setRow w4.heap.size AG.toArray) := ⟨rfl, rfl, rfl, by simp [World.setRow], fun i _ hn => setRow_other _ _ _ _ hn⟩
        have HOA : Hid (Only (fun _ => False) w4 (wZ.setRow w4.heap.size AG.toArray)) := hOZ.trans hOX (fun i hi e => by have e' : i = w4.heap.size := e; omega)
        obtain ⟨wA, hwA⟩ : ∃ wA, wA = wZ.setRow w4.heap.size AG.toArray := ⟨_, rfl⟩
        rw [← hwA] at hXA HOA ⊢
        clear hwA hOX hOZ hBZ hwZ
        obtain ⟨ws, hws⟩ : ∃ ws, ws = w4.heap.size := ⟨_, rfl⟩
        rw [← hws] at hXA ⊢
        have HNE : Hid (w.heap.size + 1 < ws) := by
          have h1 := HRS.out.lt
          have h2 := HB3.out.size
          have h3 := HO4.out.size
          show _ < _
          omega
        have HWS : Hid (ChW wA ws c) := ⟨by rw [← HAG.out]; exact hXA, HOK.out⟩
        have HCA := Lib.hid (HC4.out.only HOA.out id)
        have HIA := Lib.hid (KI.out.only HOA.out id)
        have HO3A : Hid (Only (fun _ => False) w3 wA) := HO4.out.trans HOA.out (fun _ _ h => h)
        clear hXA HRG HC4 KI HO4 HOA
        simp only [Act.put]
        obtain ⟨d0, d1, n0, n1, m0, m1⟩ := HIR.out.1.ok
        dsimp only at d0 d1 n0 n1 m0 m1
        obtain ⟨dn, rfl⟩ := Int.eq_ofNat_of_zero_le d0
        obtain ⟨nn', rfl⟩ := Int.eq_ofNat_of_zero_le n0
        obtain ⟨mn, rfl⟩ := Int.eq_ofNat_of_zero_le m0
        have qd := HCA.out.reg (k := dn) (by omega)
        have qn := HCA.out.reg (k := nn') (by omega)
        have qm := HCA.out.reg (k := mn) (by omega)
        have i0' := HIA.out.cell 0
        have i1' := HIA.out.cell 1
        have i2' := HIA.out.cell 2
        have i3' := HIA.out.cell 3
        have i4' := HIA.out.cell 4
        simp at i0' i1' i2' i3' i4'
        obtain ⟨rd, hrd⟩ : ∃ x, c.R.getD dn 0 = x := ⟨_, rfl⟩
        obtain ⟨rn, hrn⟩ : ∃ x, c.R.getD nn' 0 = x := ⟨_, rfl⟩
        obtain ⟨rm', hrm⟩ : ∃ x, c.R.getD mn 0 = x := ⟨_, rfl⟩
        rw [hrd] at qd; rw [hrn] at qn; rw [hrm] at qm
        have ed : (dn : Int) % 16 = (dn : Int) := by omega
        have en : (nn' : Int) % 16 = (nn' : Int) := by omega
        have em : (mn : Int) % 16 = (mn : Int) := by omega
        go_upto_block 2 with (fail)
        refine wp_cut (RRel up w.heap.size (w.heap.size + 1) ws rm rg c f pc0 wA) ?_ ?_
        · rintro a' wx ⟨g, n1, co1, to1, fb, c2, f2, rfl, h0, h1, h2, h3, h4, h5, h6⟩
          have hwx : Only (fun _ => False) wa wA := (Only.of_below HB3.out).trans HO3A.out (fun _ _ h => h)
          have hrg : rg < w.heap.size := by
            obtain ⟨_, cs, hc, _⟩ := HM.out
            exact hc.lt
          have hR : Blk wx (w.heap.size + 1) 44 #[.int .u32 0, .int .u32 0, .int .u32 0, .int .u32 0, .int .u32 0, .int .u32 0, .int .u32 0, .int .u32 0, .int .u32 0, .int .u32 0, .int .u32 0, .int .u32 0, .int .u32 0, .int .u32 0, .int .u32 0, .int .u32 0, .bool false, .bool false, .bool false, .bool false, .int .i64 0, .int .i64 0, .int .i64 0] := (HRS.out.only hwx id).only h4 (by rintro (e | e) <;> omega)
          have hUx : Us wx up ug L := (HUA.out.keep hwx (fun _ _ => id)).keep h4 (by
            rintro k hk (e | e)
            · have := HU.out.lt k hk; omega
            · exact Us.far HU.out HM.out hk e)
          have hOW : Only (fun j => j = rg) w wx := ((HOW0.out.trans hwx (fun _ _ h => h)).mono (fun _ _ h => h.elim)).trans h4 (by rintro i hi (e | e) <;> first | omega | exact e)
          have hne := HNE.out
          clear HOW0
          clear HRS HUA HB3 HC3 HCX HSZ2 HSZ3 HSZ4 HONE HAG hws HO3A HM2 HFR hi0 hz0 hz1 hz2 hpc q15 q20 HCP HWS HCA HIA HIR HRT hwx h4 i0' i1' i2' i3' i4' qd hrd qn hrn qm hrm ed en em HNE
          cases fb
          · have hS := h6 rfl mp
            have HS := Lib.hid hS
            clear h5 h6 hS
            have q15 := h1.reg (k := 15) (by omega)
            have hf15 := h1.1.frozen 15
            have q22 := h1.rest.2.2.2.2.2.2
            have hf22 := h1.1.frozen 22
            have HC := Lib.hid (h1.setReg (k := 15) (by omega) h0); have HM3 := Lib.hid h3; have HRR := Lib.hid hR; have HUX := Lib.hid hUx; have HOW := Lib.hid hOW
            clear h1 h2 h3 hR hUx hOW h0
            unfold RFr
            rw [rest_lit]
            go_upto_region 195 with (fail)
            obtain ⟨wB, hwB⟩ : ∃ wB, wB = (wx.setCell ⟨w.heap.size, 15, none⟩ (.int .u32 n1)).setCell ⟨w.heap.size, 22, none⟩ (.int .i64 (wrap64 (c2.cyc + co1))) := ⟨_, rfl⟩
            have hOB : Only (fun j => j = w.heap.size) wx wB := by
              rw [hwB]
              exact Only.setCell (p := ⟨w.heap.size, 22, none⟩) (Only.setCell (p := ⟨w.heap.size, 15, none⟩) (Only.refl (fun j => j = w.heap.size) wx) (.inl rfl) _) (.inl rfl) _
            have HCB : Hid (ChW wB w.heap.size { c2 with R := c2.R.set 15 n1, cyc := wrap64 (c2.cyc + co1) }) := by
              rw [hwB]
              exact HC.out.put 22 _ (Ch.set_cyc HC.out.2 _) ⟨HC.out.2.len, HC.out.2.u⟩
            have HRB : Hid (Blk wB (w.heap.size + 1) 44 #[.int .u32 0, .int .u32 0, .int .u32 0, .int .u32 0, .int .u32 0, .int .u32 0, .int .u32 0, .int .u32 0, .int .u32 0, .int .u32 0, .int .u32 0, .int .u32 0, .int .u32 0, .int .u32 0, .int .u32 0, .int .u32 0, .bool false, .bool false, .bool false, .bool false, .int .i64 0, .int .i64 0, .int .i64 0]) := HRR.out.only hOB (by omega)
            have HMB := Lib.hid (rm_only HM3.out hOB (by have := HM.out.1.lt; omega) (by omega))
            have HUB := Lib.hid (HUX.out.keep hOB (by intro k hk e; have := HU.out.lt k hk; omega))
            have HOB : Hid (Only (fun j => j = rg) w wB) := HOW.out.trans hOB (by intro i hi e; omega)
            try rw [← hwB]
            clear hwB hOB HC HRR HM3 HUX HOW q15 hf15 q22 hf22
            have hup := HU.out.lt up (.inl rfl)
            have HUL := Lib.hid (fun k hk => HU.out.lt k hk)
            have HUF := Lib.hid (fun k hk => Us.far HU.out HM.out (k := k) hk)
            obtain ⟨i1, hi1, hy0, hy1, hy2⟩ := info_parts info_ev
            obtain ⟨v, b1, b2, b3⟩ := HUB.out
            have hneu : ug ≠ some up := by
              rintro rfl
              obtain ⟨A, cc, rfl, h4 | ⟨k, cur, rfl, _, hb, _⟩⟩ := own_slice b2
              · rw [h4.1] at b3; simp [Value.ownBlock] at b3
              · simp [Value.ownBlock] at b3; exact hb.ne b1 (by decide) b3
            obtain ⟨A, cc, rfl, _⟩ := own_slice b2
            have hcu := b1.cell 0
            simp at hcu
            have B1 := Lib.hid b1; have B2 := Lib.hid b2; have B3 := Lib.hid b3; have HNU := Lib.hid hneu
            clear b1 b2 b3 hneu HUB
            go_wp2_with (at_builtin; go_loud (refine wpList_append_at _ rfl (.tmp 623) (.tmp 628) _ rfl 0 51 i1 _ 4 32 Try.underlying45 hi1 hy0 hy1 hy2 rfl (by omega) _ L.length (L.flatMap Ev.cells) rfl (B2.out.alloc _) (some ⟨wB.heap.size, 0, none⟩) 1 1 [.int .i64 4, .int .i64 pc0, .int .i64 to1, .int .i64 co1] rfl (Src.block wB _ 4 _ rfl (by simp [Value.oneCell']) _) (by simp) ?c3 ?c4 (by simp) ?_))
            case c3 => have := HL.out; unfold maxLen; omega
            case c4 => have := HL.out; omega
            intro A' c' w1 hown hg hw
            have hpp : ¬ (some up = (Value.slice A L.length cc).ownBlock) := fun e => HNU.out (by rw [← B3.out, ← e])
            have hb := (B1.out.alloc (.cells #[.int .i64 4, .int .i64 pc0, .int .i64 to1, .int .i64 co1] 51))
            have hb1 : Blk w1 up 45 #[.slice A L.length cc] := (hg.block up hb.lt hpp).trans hb
            have hcell := hb1.cell 0
            have hfz := hb1.frozen 0
            simp at hcell
            have hO : Only (TrB up ug) wB w1 := ((Only.refl _ wB).alloc _).grown hg (fun k hk => .inl (.inr (by rw [← B3.out, hk])))
            have HB := Lib.hid hb1; clear hb1 hb
            have HO := Lib.hid hown; clear hown
            have HW := Lib.hid hw; clear hw
            have HOO := Lib.hid hO; clear hO hg hpp
            go_upto_region 196 with (fail)
            have hUE : ∃ ug', Us (w1.setCell ⟨up, 0, none⟩ (.slice A' (L.length + 1) c')) up ug' (L ++ [⟨4, pc0, to1, co1⟩]) ∧ (ug' = ug ∨ ∃ k, ug' = some k ∧ wB.heap.size ≤ k) := by
              refine ⟨_, ⟨_, HB.out.set 0 _, ?_, rfl⟩, ?_⟩
              · have e1 : (L ++ [(⟨4, pc0, to1, co1⟩ : Ev)]).flatMap Ev.cells = L.flatMap Ev.cells ++ [.int .i64 4, .int .i64 pc0, .int .i64 to1, .int .i64 co1] := by simp [Ev.cells]
                have e2 : (L ++ [(⟨4, pc0, to1, co1⟩ : Ev)]).length = L.length + 1 := by simp
                rw [e1, e2]
                refine own_only HO.out (Only.setCell (S := fun k => k = up) (Only.refl _ w1) (p := ⟨up, 0, none⟩) (.inl rfl) _) ?_
                intro k hk e
                have := HW.out
                subst e
                rw [hk] at this
                rcases this with h | h
                · exact HNU.out (by rw [← B3.out, ← h])
                · have hlt := B1.out.lt; simp at h; omega
              · rcases HW.out with h | h
                · exact .inl (by rw [h, B3.out])
                · exact .inr ⟨_, h, by simp⟩
            have hOE : Only (TrB up ug) wB (w1.setCell ⟨up, 0, none⟩ (.slice A' (L.length + 1) c')) := HOO.out.setCell (.inl (.inl rfl)) _
            obtain ⟨wE, hwE⟩ : ∃ wE, wE = w1.setCell ⟨up, 0, none⟩ (.slice A' (L.length + 1) c') := ⟨_, rfl⟩
            rw [← hwE] at hUE hOE ⊢
            have HCE := Lib.hid (HCB.out.only hOE (fun hk => by have := HUL.out _ hk; omega))
            have HRE : Hid (Blk wE (w.heap.size + 1) 44 #[.int .u32 0, .int .u32 0, .int .u32 0, .int .u32 0, .int .u32 0, .int .u32 0, .int .u32 0, .int .u32 0, .int .u32 0, .int .u32 0, .int .u32 0, .int .u32 0, .int .u32 0, .int .u32 0, .int .u32 0, .int .u32 0, .bool false, .bool false, .bool false, .bool false, .int .i64 0, .int .i64 0, .int .i64 0]) := HRB.out.only hOE (fun hk => by have := HUL.out _ hk; omega)
            have HME := Lib.hid (rm_only HMB.out hOE (fun hk => Us.far2 HU.out HM.out hk rfl) (fun hk => HUF.out _ hk rfl))
            have HUE := Lib.hid hUE
            have HBS := Lib.hid HOB.out.size
            have HOE : Hid (Only (fun k => k = rg ∨ TrB up ug k) w wE) := (HOB.out.mono (fun _ _ h => .inl h)).trans hOE (fun _ _ h => .inr h)
            have HRS2 := Lib.hid HRB.out.lt
            clear hwE hUE hOE HB HO HW HOO hcell hfz HCB HRB HMB HOB hcu B1 B2 B3 HNU
            obtain ⟨AG, hAG⟩ : ∃ AG : List Value, AG = ({ c2 with R := c2.R.set 15 n1, cyc := wrap64 (c2.cyc + co1) } : Ch).cells := ⟨_, rfl⟩
            have HROW := Lib.hid (chip_row HCE.out.2)
            have HRG : Hid (wE.rangeAt w.heap.size 0 AG) := fun j v hv => by
              rw [hAG] at hv
              rw [Nat.zero_add, HCE.out.1.cell, List.getElem?_toArray]; exact hv
            rw [← hAG] at HROW
            have HAG := Lib.hid hAG
            clear hAG
            go_wp2_with (first | refine wpList_load_mid rfl 44 _ rfl w.heap.size 0 rfl AG _ HRG.out Try.underlying44 rfl HROW.out.1 ?_ | refine wpList_store_row rfl 44 _ _ rfl (w.heap.size + 1) AG.toArray rfl rfl 44 #[.int .u32 0, .int .u32 0, .int .u32 0, .int .u32 0, .int .u32 0, .int .u32 0, .int .u32 0, .int .u32 0, .int .u32 0, .int .u32 0, .int .u32 0, .int .u32 0, .int .u32 0, .int .u32 0, .int .u32 0, .int .u32 0, .bool false, .bool false, .bool false, .bool false, .int .i64 0, .int .i64 0, .int .i64 0] HRE.out HROW.out.2.1 HROW.out.2.2.1 HROW.out.2.2.2 ?_)
            have HRZ : Blk (wE.setRow (w.heap.size + 1) AG.toArray) (w.heap.size + 1) 44 AG.toArray := setRow_heap _ _ _ _ _ _ HRE.out
            have HOZ := setRow_only wE (w.heap.size + 1) AG.toArray
            obtain ⟨wZ2, hwZ2⟩ : ∃ wZ2, wZ2 = wE.setRow (w.heap.size + 1) AG.toArray := ⟨_, rfl⟩
            rw [← hwZ2] at HRZ HOZ ⊢
            refine bodyPost_ret (results_cell_row rfl _ _ (w.heap.size + 1) 44 AG.toArray (0, 0) _ (by rfl) HRZ Try.underlying44 rfl HROW.out.2.1) rfl ?_
            unfold RStepP
            rw [HS.out]
            dsimp only
            obtain ⟨ug', u1, u2⟩ := HUE.out
            refine ⟨by rw [HAG.out], rm_only HME.out HOZ (by have := HM.out.1.lt; omega) (by omega), ug', ?_, ?_, HOE.out.trans HOZ (by intro i hi e; omega)⟩
            · refine u1.keep HOZ ?_
              rintro k (rfl | hk) e
              · have := HUL.out k (.inl rfl); omega
              · rcases u2 with h | ⟨k2, h, h'⟩
                · have := HUL.out k (.inr (by rw [← h, hk])); omega
                · rw [hk] at h
                  have h2 := HRS2.out
                  simp at h; omega
            · rcases u2 with h | ⟨k2, h, h'⟩
              · exact .inl h
              · exact .inr ⟨k2, h, by have := HBS.out; omega⟩
          · have hS := h5 rfl mp
            have HS := Lib.hid hS
            clear h5 h6 hS
            have hC := h2.setSt 2
            have q20 := h2.rest.2.2.2.2.1
            have hf20 := h2.1.frozen 20
            have HC := Lib.hid hC; have HX := Lib.hid h2; have HCC := Lib.hid h1; have HM3 := Lib.hid h3; have HRR := Lib.hid hR; have HUX := Lib.hid hUx; have HOW := Lib.hid hOW
            clear hC h2 h1 h3 hR hUx hOW
            unfold RFr
            rw [rest_lit]
            go_upto_region 192 with (fail)
            obtain ⟨wB, hwB⟩ : ∃ wB, wB = wx.setCell ⟨ws, 20, none⟩ (.int .i64 2) := ⟨_, rfl⟩
            have hOB : Only (fun j => j = ws) wx wB := by rw [hwB]; exact Only.setCell (p := ⟨ws, 20, none⟩) (Only.refl (fun j => j = ws) wx) (.inl rfl) _
            have HCB : Hid (ChW wB ws { c with st := 2 }) := by rw [hwB]; exact HC.out
            have HRB : Hid (Blk wB (w.heap.size + 1) 44 #[.int .u32 0, .int .u32 0, .int .u32 0, .int .u32 0, .int .u32 0, .int .u32 0, .int .u32 0, .int .u32 0, .int .u32 0, .int .u32 0, .int .u32 0, .int .u32 0, .int .u32 0, .int .u32 0, .int .u32 0, .int .u32 0, .bool false, .bool false, .bool false, .bool false, .int .i64 0, .int .i64 0, .int .i64 0]) := HRR.out.only hOB (by omega)
            have HMB := Lib.hid (rm_only HM3.out hOB (by have := HM.out.1.lt; omega) (by omega))
            have HUB := Lib.hid (HUX.out.keep hOB (by intro k hk e; have := HU.out.lt k hk; omega))
            have HOB : Hid (Only (fun j => j = rg) w wB) := HOW.out.trans hOB (by intro i hi e; omega)
            rw [← hwB]
            clear hwB hOB HC HX HRR HM3 HUX HOW HCC
            obtain ⟨AG, hAG⟩ : ∃ AG : List Value, AG = ({ c with st := 2 } : Ch).cells := ⟨_, rfl⟩
            have HROW := Lib.hid (chip_row (c := { c with st := 2 }) HCB.out.2)
            have HRG : Hid (wB.rangeAt ws 0 AG) := fun j v hv => by
              rw [hAG] at hv
              rw [Nat.zero_add, HCB.out.1.cell, List.getElem?_toArray]; exact hv
            rw [← hAG] at HROW
            have HAG := Lib.hid hAG
            clear hAG
            go_wp2_with (first | refine wpList_load_mid rfl 44 _ rfl ws 0 rfl AG _ HRG.out Try.underlying44 rfl HROW.out.1 ?_ | refine wpList_store_row rfl 44 _ _ rfl (w.heap.size + 1) AG.toArray rfl rfl 44 #[.int .u32 0, .int .u32 0, .int .u32 0, .int .u32 0, .int .u32 0, .int .u32 0, .int .u32 0, .int .u32 0, .int .u32 0, .int .u32 0, .int .u32 0, .int .u32 0, .int .u32 0, .int .u32 0, .int .u32 0, .int .u32 0, .bool false, .bool false, .bool false, .bool false, .int .i64 0, .int .i64 0, .int .i64 0] HRB.out HROW.out.2.1 HROW.out.2.2.1 HROW.out.2.2.2 ?_)
            have HRZ : Blk (wB.setRow (w.heap.size + 1) AG.toArray) (w.heap.size + 1) 44 AG.toArray := setRow_heap _ _ _ _ _ _ HRB.out
            have HOZ := setRow_only wB (w.heap.size + 1) AG.toArray
            obtain ⟨wZ2, hwZ2⟩ : ∃ wZ2, wZ2 = wB.setRow (w.heap.size + 1) AG.toArray := ⟨_, rfl⟩
            rw [← hwZ2] at HRZ HOZ ⊢
            refine bodyPost_ret (results_cell_row rfl _ _ (w.heap.size + 1) 44 AG.toArray (0, 0) _ (by rfl) HRZ Try.underlying44 rfl HROW.out.2.1) rfl ?_
            unfold RStepP
            rw [HS.out]
            dsimp only
            refine ⟨by rw [HAG.out], rm_only HMB.out HOZ (by have := HM.out.1.lt; omega) (by omega), ug, ?_, .inl rfl, HOB.out.trans HOZ (by intro i hi e; omega) |>.mono (fun _ _ h => .inl h)⟩
            rw [List.append_nil]
            exact HUB.out.keep HOZ (by intro k hk e; have := HU.out.lt k hk; omega)
        · intro J K' hJ hK
          have HWX : Hid (Only (fun _ => False) wa wA) := (Only.of_below HB3.out).trans HO3A.out (fun _ _ h => h)
          have HMA : Hid (Mm wA 78 rm rg f) := rm_only HM2.out HWX.out id id
          have hws2 : w.heap.size ≠ ws := by have := HNE.out; omega
          clear HNE HOW0
          generalize w.heap.size + 1 = res at *
          generalize w.heap.size = cp at *
          clear HRS HUA HU HL HB3 HC3 HCX HSZ2 HSZ3 HSZ4 HONE HAG hws HO3A HWX HM2 HM HFR hi0 hz0 hz1 hz2 q15 q20 HCP
          rename_i Q1 hk0 K1 a1
          clear_value Q1
          clear a1 K1 hk0
          clear i0 wc
          revert c rm rg up f pc0 u9 u10 u11 u54 u55 u56 u57 u58 u59 u60 u61 u62 u63 u64 u65 u66 u67 u68 u69 u70 u71 u72 B d q k imm cond ip AG wA ws dn nn' mn rd rn rm' cp res J K' Q1

          exact hG op
end Go.Proofs.Ytpihjhfaeloapaa
namespace Go.Proofs.Ytpihjhfaeloapaa
open Go.RowKit On Th
theorem get15 (l : List Int) {k : Nat} (hk : k < 15) (x : Int) : (l.set 15 x).getD k 0 = l.getD k 0 := by
  rw [List.getD_eq_getElem?_getD, List.getD_eq_getElem?_getD, List.getElem?_set_ne (by omega)]
theorem sp_end {mp : Value} {c c2 : Ch} {f f2 : Nat → Int} {i : Ins} {k pc0 n1 co tc : Int} {s' : Sp} (hst : c.st = 0) (hpc : c.R.getD 15 0 = pc0) (HF : Hid (fetchS f pc0 = (i, k, 0))) (hx : (c.sp mp i).exec f = (s', f2)) (hfl : s'.fault = false)
    (hc : s'.c = { c2 with R := c2.R.set 15 n1 }) (hco : s'.cost = co) (htc : s'.touch = tc) :
    stepS mp c f = ({ c2 with R := c2.R.set 15 n1, cyc := wrap64 (c2.cyc + co) }, f2, [⟨4, pc0, tc, co⟩]) := by
  rw [stepS_ok hst (by rw [hpc]; exact HF.out) hx hfl, hc, hco, htc, hpc]
set_option maxHeartbeats 8000000 in
theorem low15 {op d n m imm cond : Int} (h : op = 43 ∨ rightS ⟨op, d, n, m, imm, cond⟩ = true) (h1 : op ≠ 43) : d < 15 ∧ n < 15 ∧ m < 15 := by
  rcases h with h | h
  · exact absurd h h1
  have hop : 1 ≤ op ∧ op ≤ 45 := ⟨(right_R h).op0, (right_R h).op1⟩
  obtain ⟨h0, h2⟩ := hop
  have hc : op = 1 ∨ op = 2 ∨ op = 3 ∨ op = 4 ∨ op = 5 ∨ op = 6 ∨ op = 7 ∨ op = 8 ∨ op = 9 ∨ op = 10 ∨ op = 11 ∨ op = 12 ∨ op = 13 ∨ op = 14 ∨ op = 15 ∨ op = 16 ∨ op = 17 ∨ op = 18 ∨ op = 19 ∨ op = 20 ∨ op = 21 ∨ op = 22 ∨ op = 23 ∨ op = 24 ∨ op = 25 ∨ op = 26 ∨ op = 27 ∨ op = 28 ∨ op = 29 ∨ op = 30 ∨ op = 31 ∨ op = 32 ∨ op = 33 ∨ op = 34 ∨ op = 35 ∨ op = 36 ∨ op = 37 ∨ op = 38 ∨ op = 39 ∨ op = 40 ∨ op = 41 ∨ op = 42 ∨ op = 44 ∨ op = 45 := by omega
  rcases hc with rfl | rfl | rfl | rfl | rfl | rfl | rfl | rfl | rfl | rfl | rfl | rfl | rfl | rfl | rfl | rfl | rfl | rfl | rfl | rfl | rfl | rfl | rfl | rfl | rfl | rfl | rfl | rfl | rfl | rfl | rfl | rfl | rfl | rfl | rfl | rfl | rfl | rfl | rfl | rfl | rfl | rfl | rfl | rfl
  all_goals
    simp [rightS, rowOf, rowOk, rpS, reg, im] at h
    omega
theorem rapart {w : World} {pc m g : Nat} {c : Ch} {f : Nat → Int} (h : ChW w pc c) (hm : Mm w 78 m g f) : m ≠ pc ∧ g ≠ pc := by
  obtain ⟨hb, cs, hc, _⟩ := hm
  exact ⟨(h.1.ne hb (by decide)).symm, (h.1.ne hc (by decide)).symm⟩
set_option maxHeartbeats 16000000 in
set_option maxRecDepth 100000 in
theorem rarm_28 : rsw.1 28 := by
  delta rsw
  dsimp only
  intro c _ _ _ f hst _ _ _ hpc _ _ _ _ _ _ _ _ _ _ _ _ _ _ _ _ _ _ _ _ _ _ _ _ _ _ _ k _ _ _ _ _ _ wA _ HWS dn _ _ _ _ _ mn _ _ HF HIR HRT _ _ _ _ _ _ _ _ _ _ rm' hrm _ _ _ _ _ _ HMA _ cp HCA _ _ _ hws2 hJ
  have hf1 := HCA.out.1.frozen dn
  have hk : k = 1 := by simpa using HIR.out.2
  subst hk
  obtain ⟨l1, l2, l3⟩ := low15 HRT.out (by simp)
  go_wp2_with fail
  have hU : U rm' := by rw [← hrm]; exact HCA.out.2.reg (by omega)
  have hO : Only (fun j => j = cp) wA (wA.setCell ⟨cp, dn, none⟩ (.int .u32 rm')) := Only.setCell (p := ⟨cp, dn, none⟩) (Only.refl (fun j => j = cp) wA) (.inl rfl) _
  obtain ⟨a1, a2⟩ := rapart HCA.out HMA.out
  refine rmeet hJ rfl { c with R := c.R.set dn rm' } f ⟨by omega, by omega⟩ (HCA.out.setReg (by omega) hU) (HWS.out.only hO (fun e => hws2 e.symm)) (rm_only HMA.out hO a1 a2) (hO.mono (fun _ _ h => .inl h)) (fun h => by cases h) (fun _ mp => ?_)
  refine sp_end hst hpc HF (s' := ((c.sp mp _).setR dn ((c.sp mp _).c.R.getD mn 0))) (by rfl) rfl ?_ rfl rfl
  unfold Sp.setR Ch.sp
  dsimp only
  rw [get15 _ (by omega), hrm, hpc, List.set_comm _ _ (by omega)]
  rfl
end Go.Proofs.Ytpihjhfaeloapaa
