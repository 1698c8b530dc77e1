/- The walk of MemPlays. -/
import Derived.Test.YtmbaoaoglhonfaaMemTwo
import Derived.Test.YtmbaoaoglhonfaaRows2
import Derived.Deep.CutBlock
import Derived.Deep.RegionWith
namespace Go.Proofs.Ytmbaoaoglhonfaa
open Go.RowKit On
theorem below_drewN {B : Nat} {a w : World} (h : Below B a w) (n : Nat) : Below B a (w.drewN n) := ⟨h.os, h.tape, h.output, h.size, h.block⟩
theorem cells_step : Try.prog.cellsOf 59 = 5 := by kernel_rfl
theorem cells_int1 : Try.prog.cellsOf 3 = 1 := by kernel_rfl
theorem cells_u32 : Try.prog.cellsOf 39 = 1 := by kernel_rfl
theorem cells_u16 : Try.prog.cellsOf 51 = 1 := by kernel_rfl
theorem cells_halfs : Try.prog.cellsOf 52 = 1 := by kernel_rfl
/-- a step that is viewed -/
theorem viewed_step {w : World} {es : List Value} (h : Vw.Viewed Try.prog w 59 es) :
    ∃ (x1 x2 x3 x4 : Int) (A : Option Addr) (n c : Nat) (hs : List Int), es = [.int .i64 x1, .int .i64 x2, .int .i64 x3, .int .u32 x4, .slice A n c] ∧ (0 ≤ x4 ∧ x4 ≤ 4294967295) ∧ Hs w A n hs ∧ n ≤ c := by
  obtain ⟨hl, hf⟩ := Vw.viewed_struct Try.underlying59 h
  rw [cells_step] at hl
  have f0 : Vw.Viewed Try.prog w 3 ((es.drop 0).take (Try.prog.cellsOf 3)) := hf 0 _ rfl
  have f1 : Vw.Viewed Try.prog w 3 ((es.drop 1).take (Try.prog.cellsOf 3)) := hf 1 _ rfl
  have f2 : Vw.Viewed Try.prog w 3 ((es.drop 2).take (Try.prog.cellsOf 3)) := hf 2 _ rfl
  have f3 : Vw.Viewed Try.prog w 39 ((es.drop 3).take (Try.prog.cellsOf 39)) := hf 3 _ rfl
  have f4 : Vw.Viewed Try.prog w 52 ((es.drop 4).take (Try.prog.cellsOf 52)) := hf 4 _ rfl
  rw [cells_int1] at f0 f1 f2
  rw [cells_u32] at f3
  rw [cells_halfs] at f4
  obtain ⟨n0, e0, _⟩ := Vw.viewed_int Try.underlying3 f0
  obtain ⟨n1, e1, _⟩ := Vw.viewed_int Try.underlying3 f1
  obtain ⟨n2, e2, _⟩ := Vw.viewed_int Try.underlying3 f2
  obtain ⟨n3, e3, hw⟩ := Vw.viewed_int Try.underlying39 f3
  obtain ⟨A, n, c, xs, e4, hn, _, g1, g2, g3, g4⟩ := Vw.viewed_ints2 Try.underlying52 Try.underlying51 cells_u16 f4
  match es, hl with
  | [a, b, c', d, e], _ =>
    simp at e0 e1 e2 e3 e4
    subst e0; subst e1; subst e2; subst e3; subst e4
    refine ⟨_, _, _, _, _, _, _, xs, rfl, ?_, ⟨g1, ?_, g3, fun b o s i hA hi => ?_⟩, hn⟩
    · simp [Lit.wf, IntKind.min, IntKind.max, IntKind.signed, IntKind.bits] at hw; omega
    · intro x hx
      have := g2 x hx
      simp [Lit.wf, IntKind.min, IntKind.max, IntKind.signed, IntKind.bits] at this; omega
    · obtain ⟨h1, h2, h3⟩ := g4 b o s i hA hi; exact ⟨h3, h1, h2⟩
set_option maxHeartbeats 1000000 in
theorem at_c (x1 x2 x3 : Int) (x4 x5 : Value) (h4 : ∃ z, x4 = .int .u32 z) (h5 : ∃ A n c, x5 = .slice A n c) (w : World) : Calls Try.prog 29 #[.agg #[.int .i64 x1, .int .i64 x2, .int .i64 x3, x4, x5]] w fun e w' => (∃ k, e = .returned (.int .i64 k)) ∧ Below w.heap.size w w' := by
  obtain ⟨z, rfl⟩ := h4
  obtain ⟨A, n, c, rfl⟩ := h5
  have hB : Hid (Below w.heap.size w (w.alloc (.cells #[.int .i64 x1, .int .i64 x2, .int .i64 x3, .int .u32 z, .slice A n c] 59))) := (Below.refl _ _).alloc (Nat.le_refl _) _
  by_cases h8 : (x3.tmod 9 == 8) = true
  · go_enter Try.func29, Try.ntmps29
    go_wp2_with fail
    go_ret
    exact ⟨⟨_, rfl⟩, hB.out⟩
  · have h8' : (x3.tmod 9 == 8) = false := by simpa using h8
    clear h8
    have p1 := fun w => (pickN x3 6 (by omega) (by omega) w).mono (R' := fun e w' => e = .returned (.int .i64 (x3 % 6)) ∧ w' = w) (fun _ _ ⟨h1, h2⟩ => ⟨h1, h2.symm⟩)
    have p2 := fun w => (pickN x2 24 (by omega) (by omega) w).mono (R' := fun e w' => e = .returned (.int .i64 (x2 % 24)) ∧ w' = w) (fun _ _ ⟨h1, h2⟩ => ⟨h1, h2.symm⟩)
    obtain ⟨y, hy⟩ : ∃ y, x2 % 24 = y := ⟨_, rfl⟩
    have hy1 : 0 ≤ y := by omega
    have hy2 : y ≤ 23 := by omega
    rw [hy] at p2
    clear hy
    obtain ⟨z', hz⟩ : ∃ y, x3 % 6 = y := ⟨_, rfl⟩
    have hz1 : z' = 0 ∨ z' = 1 ∨ z' = 2 ∨ z' = 3 ∨ z' = 4 ∨ z' = 5 := by omega
    rw [hz] at p1
    clear hz
    have hi : ∃ T, ∀ w, (Instr.index 73 (.agg #[.int .i64 0, .int .i64 131072, .int .i64 131072, .int .i64 245760, .int .i64 262144, .int .i64 100]) (.int .i64 z')).run Try.prog w = .ok (.int .i64 T) w := by
      rcases hz1 with rfl | rfl | rfl | rfl | rfl | rfl
      · exact ⟨0, fun w => by kernel_rfl⟩
      · exact ⟨131072, fun w => by kernel_rfl⟩
      · exact ⟨131072, fun w => by kernel_rfl⟩
      · exact ⟨245760, fun w => by kernel_rfl⟩
      · exact ⟨262144, fun w => by kernel_rfl⟩
      · exact ⟨100, fun w => by kernel_rfl⟩
    clear hz1
    obtain ⟨T, hi⟩ := hi
    go_enter Try.func29, Try.ntmps29
    go_wp2_with fail
    go_quiet (first | (go_at_call 11; first | (with_reducible exact Calls.quiet_of_same (p1 _)) | (with_reducible exact Calls.quiet_of_same (p2 _))))
    go_wp2_with fail
    go_ret
    exact ⟨⟨_, rfl⟩, below_drewN hB.out _⟩
set_option maxHeartbeats 4000000 in
set_option maxRecDepth 100000 in
theorem memPlays_walk (A : Option Addr) (n c : Nat) (w : World) (hr : Vw.RowsOf w A n 5 (Vw.Viewed Try.prog w 59)) :
    Calls Try.prog 8 #[.slice A n c] w fun e w' => e = .returned (.bool true) ∧ Below w.heap.size w w' := by
  have n1 : ∀ (w : World) (a : Addr), (binOp .eql 40 (.pointer (some a)) (.pointer none)).run Try.prog w = .ok (.bool false) w := by
    intro w a; go_simp
  have HR := Lib.hid hr; clear hr
  go_enter Try.func8, Try.ntmps8
  go_wp2_with fail
  refine (memNew_c w).mono ?_
  rintro e w1 ⟨p, g, rfl, hm, hp, hg, hbl⟩
  have HM := Lib.hid hm; have HBL := Lib.hid hbl; have HP := Lib.hid hp; have HG := Lib.hid hg; clear hm hbl hp hg
  go_wp2_with fail
  refine (memKnown_c w1).mono ?_
  rintro e w2 ⟨rfl, hb2⟩
  have HM2 := Lib.hid (HM.out.below hb2)
  have HBL2 := Lib.hid (HBL.out.trans (hb2.mono HBL.out.size))
  clear hb2 HM HBL
  go_wp2_with fail
  refine (rNew_c w2).mono ?_
  rintro e w3 ⟨p', g', rfl, hm', hp', hg', hbl'⟩
  have HM3 := Lib.hid (HM2.out.below hbl')
  have HQ3 := Lib.hid hm'
  have HBL3 := Lib.hid (HBL2.out.trans (hbl'.mono HBL2.out.size))
  have HPP : Hid (w.heap.size ≤ p' ∧ w.heap.size ≤ g' ∧ p' ≠ p ∧ p' ≠ g ∧ g' ≠ p ∧ g' ≠ g) := by
    have := HM2.out.lt; have := HBL2.out.size; unfold Hid; omega
  clear hm' hp' hg' hbl' HM2 HBL2
  go_wp2_with fail
  go_loopw [5] (fun i wr => ∃ (k : Nat) (f : Nat → Int), k ≤ n ∧ i = .int .i64 k ∧ Mm wr 68 p g f ∧ Mm wr 72 p' g' f ∧ Below w.heap.size w wr) (fun i _ => n - (intOf i).toNat)
  case atStart => exact ⟨0, _, Nat.zero_le _, rfl, HM3.out, HQ3.out, HBL3.out⟩
  case round =>
    obtain ⟨k, f, hk, rfl, hm, hq, hb⟩ := hrel
    have HM := Lib.hid hm; have HQ := Lib.hid hq; have HB := Lib.hid hb; clear hm hq hb HM3 HQ3 HBL3
    by_cases hlt : k < n
    · by_cases h60 : (k : Int) < 60
      · cases A with
        | none => have := HR.out.none_ rfl; omega
        | some ad =>
          obtain ⟨b, o, s⟩ := ad
          obtain ⟨rfl, hbw, es, hl, hv, hc⟩ := HR.out.cell b o s k rfl hlt
          obtain ⟨x1, x2, x3, x4, H, hn, hcp, hs, rfl, hx4, hH, hnc⟩ := viewed_step hv
          have HH := Lib.hid hH; have HX4 := Lib.hid hx4
          have HO : Hid (Only (fun _ => False) w wr) := Only.of_below HB.out
          have c0 : wr.cell? ⟨b, o + k * 5, none⟩ = some (.int .i64 x1) := by rw [HO.out.cell (p := ⟨b, o + k * 5, none⟩) hbw id]; exact hc 0 (by omega)
          have c1 : wr.cell? ⟨b, o + k * 5 + 1, none⟩ = some (.int .i64 x2) := by rw [HO.out.cell (p := ⟨b, o + k * 5 + 1, none⟩) hbw id]; exact hc 1 (by omega)
          have c2 : wr.cell? ⟨b, o + k * 5 + 2, none⟩ = some (.int .i64 x3) := by rw [HO.out.cell (p := ⟨b, o + k * 5 + 2, none⟩) hbw id]; exact hc 2 (by omega)
          have c3 : wr.cell? ⟨b, o + k * 5 + 3, none⟩ = some (.int .u32 x4) := by rw [HO.out.cell (p := ⟨b, o + k * 5 + 3, none⟩) hbw id]; exact hc 3 (by omega)
          have c4 : wr.cell? ⟨b, o + k * 5 + 4, none⟩ = some (.slice H hn hcp) := by rw [HO.out.cell (p := ⟨b, o + k * 5 + 4, none⟩) hbw id]; exact hc 4 (by omega)
          have hbz : b < wr.heap.size := by have := HB.out.size; omega
          clear hl hv hc hH hx4
          have HBW := Lib.hid hbw; clear hbw
          have HKN := Lib.hid hk; clear hk
          go_wp2_with fail
          obtain ⟨wa, hwa⟩ : ∃ wa, wa = wr.alloc (.cells #[.int .i64 x1, .int .i64 x2, .int .i64 x3, .int .u32 x4, .slice H hn hcp] 59) := ⟨_, rfl⟩
          obtain ⟨X, hX⟩ : ∃ X, X = wr.heap.size := ⟨_, rfl⟩
          rw [← hwa, ← hX]
          have hba : Below wr.heap.size wr wa := by rw [hwa]; exact (Below.refl _ _).alloc (Nat.le_refl _) _
          have hxa : Blk wa X 59 #[.int .i64 x1, .int .i64 x2, .int .i64 x3, .int .u32 x4, .slice H hn hcp] := by rw [hwa, hX]; exact Blk.new _ _ _
          clear hwa
          refine (at_c x1 x2 x3 _ _ ⟨_, rfl⟩ ⟨_, _, _, rfl⟩ wa).mono ?_
          rintro e wb ⟨⟨K, rfl⟩, hbb⟩
          have hbab := hba.trans (hbb.mono hba.size)
          have HMb := Lib.hid (HM.out.below hbab)
          have HQb := Lib.hid (HQ.out.below hbab)
          have HXP : Hid (X ≠ p ∧ X ≠ g ∧ X ≠ p' ∧ X ≠ g' ∧ w.heap.size ≤ X ∧ X < wb.heap.size) := by
            have := HM.out.lt; have := HQ.out.lt; have := HB.out.size; have := hxa.lt; have := hbb.size; unfold Hid; omega
          have HXb : Hid (Blk wb X 59 #[.int .i64 x1, .int .i64 x2, .int .i64 x3, .int .u32 x4, .slice H hn hcp]) := hxa.only (S := fun _ => False) (Only.of_below hbb) id
          have HBb := Lib.hid (HB.out.trans (hbab.mono HB.out.size))
          clear hba hxa hbb hbab hX c0 c1 c2 c3 c4 hbz HM HQ HO HB
          clear wa
          have d0 := HXb.out.cell 0
          have d3 := HXb.out.cell 3
          have d4 := HXb.out.cell 4
          simp at d0 d3 d4
          go_wp2_with fail
          refine (pickN x1 7 (by omega) (by omega) wb).mono ?_
          rintro e w' ⟨rfl, rfl⟩
          have hq1 : 0 ≤ x1 % 7 := by omega
          have hq2 : x1 % 7 < 7 := by omega
          generalize x1 % 7 = q at *
          go_upto_block 2 with (fail)
          go_cut [8] (fun s wx => ∃ f', s = .bool true ∧ Mm wx 68 p g f' ∧ Mm wx 72 p' g' f' ∧ Below w.heap.size w wx)
          case first =>
            have HD : Hid (∀ b' o' s', H = some ⟨b', o', s'⟩ → 0 < hn → b' < w.heap.size) := fun b' o' s' hA h0 => (HH.out.cell b' o' s' 0 hA h0).2.2
            have HV8 : Hid (0 ≤ IntKind.u8.wrap x4 ∧ IntKind.u8.wrap x4 ≤ 255) := by unfold Hid; rw [IntKind.wrap_u8]; omega
            have HT : Hid (Two w p g p' g' X x4 f f wb) := by
              have h1 := HXP.out; have h2 := HPP.out; have h3 := HMb.out.lt; have h4 := HG.out
              exact ⟨HMb.out, HQb.out, HBb.out, d3, by omega⟩
            rcases (show q = 0 ∨ q = 1 ∨ q = 2 ∨ q = 3 ∨ 4 ≤ q by omega) with rfl | rfl | rfl | rfl | h4
            · go_upto_if 55 with (fail)
              go_cut [9] (fun s wx => ∃ n' : Nat, s = .slice H n' hcp ∧ n' ≤ hn ∧ wx = wb)
              case first =>
                by_cases h20 : (hn : Int) > 20
                · go_wp2_with fail
                  go_meet
                  exact ⟨20, rfl, by omega, rfl⟩
                · go_wp2_with fail
                  go_meet
                  exact ⟨hn, rfl, Nat.le_refl _, rfl⟩
              case rest =>
                obtain ⟨n', rfl, hn', rfl⟩ := hcut
                rename_i wc
                have HT : Hid (Hs w H n' (hs.take n')) := HH.out.take hn'
                have HE : Hid (∀ b' o' s', H = some ⟨b', o', s'⟩ → 0 < n' → b' < w.heap.size) := fun b' o' s' hA h0 => HD.out b' o' s' hA (by omega)
                generalize hs.take n' = zs at *
                go_wp2_with fail
                refine (load_t wc p g f K H n' hcp zs HMb.out (HT.out.below HBb.out) (fun b' o' s' hA h0 => by have := HE.out b' o' s' hA h0; have := HG.out; omega)).mono ?_
                rintro e w4 ⟨rfl, hm, hO⟩
                have HM4 := Lib.hid hm
                have HQ4 := Lib.hid (HQb.out.only hO HPP.out.2.2.2.1 HPP.out.2.2.2.2.2)
                have HB4 : Hid (Below w.heap.size w w4) := HBb.out.trans (hO.below HBb.out.size (fun j hj => by have := HG.out; omega))
                clear hm hO
                go_wp2_with fail
                refine (rload_t w4 p' g' f K H n' hcp zs HQ4.out (HT.out.below HB4.out) (fun b' o' s' hA h0 => by have := HE.out b' o' s' hA h0; have := HPP.out; omega)).mono ?_
                rintro e w5 ⟨rfl, hm, hO⟩
                have HQ5 := Lib.hid hm
                have HM5 := Lib.hid (HM4.out.only hO (by have := HPP.out; omega) (by have := HPP.out; omega))
                have HB5 : Hid (Below w.heap.size w w5) := HB4.out.trans (hO.below HB4.out.size (fun j hj => by have := HPP.out; omega))
                clear hm hO
                generalize okL K n' = ok at *
                go_wp2_with fail
                go_meet
                exact ⟨_, by simp, HM5.out, HQ5.out, HB5.out⟩
            · have c3 := HT.out.cell
              go_wp2_with fail
              go_region_with (first
                | (go_at_call 22; (refine (two_setword K _ HT.out.drew).mono ?_); rintro e w4 ⟨rfl, ht4⟩; have c4 := ht4.cell; have HT4 := Lib.hid ht4; clear ht4)
                | (go_at_call 31; (refine (two_rsetword K _ HT4.out).mono ?_); rintro e w5 ⟨rfl, ht5⟩; have HT5 := Lib.hid ht5; clear ht5))
              all_goals
                go_wp2_with fail
                go_meet
                exact ⟨_, by simp, HT5.out.m, HT5.out.r, HT5.out.below⟩
            · have c3 := HT.out.cell
              go_wp2_with fail
              go_region_with (first
                | (go_at_call 22; (refine (two_setword K _ HT.out.drew).mono ?_); rintro e w4 ⟨rfl, ht4⟩; have c4 := ht4.cell; have HT4 := Lib.hid ht4; clear ht4)
                | (go_at_call 31; (refine (two_rsetword K _ HT4.out).mono ?_); rintro e w5 ⟨rfl, ht5⟩; have HT5 := Lib.hid ht5; clear ht5))
              all_goals
                go_wp2_with fail
                go_meet
                exact ⟨_, by simp, HT5.out.m, HT5.out.r, HT5.out.below⟩
            · have c3 := HT.out.cell
              go_wp2_with fail
              go_region_with (first
                | (go_at_call 24; (refine (two_setbyte K _ HT.out.drew HV8.out).mono ?_); rintro e w4 ⟨rfl, ht4⟩; have c4 := ht4.cell; have HT4 := Lib.hid ht4; clear ht4)
                | (go_at_call 32; (refine (two_rsetbyte K _ HT4.out HV8.out).mono ?_); rintro e w5 ⟨rfl, ht5⟩; have HT5 := Lib.hid ht5; clear ht5))
              all_goals
                go_wp2_with fail
                go_meet
                exact ⟨_, by simp, HT5.out.m, HT5.out.r, HT5.out.below⟩
            · go_wp2_with fail
              go_meet
              exact ⟨f, rfl, HMb.out, HQb.out, HBb.out⟩
          case rest =>
            obtain ⟨f', rfl, hm, hq, hb⟩ := hcut
            have HM := Lib.hid hm; have HQ := Lib.hid hq; have HB := Lib.hid hb; clear hm hq hb HMb HQb HBb HXb d0 d3 d4
            go_wp2_with fail
            refine (word_t wc p g f' K HM.out).mono ?_
            rintro e w' ⟨rfl, rfl⟩
            go_wp2_with fail
            refine (rword_t wc p' g' f' K HQ.out).mono ?_
            rintro e w5 ⟨rfl, q5, h5⟩
            have HM5 : Hid (Mm w5 68 p g f') := by subst h5; exact HM.out.drewN q5
            have HQ5 : Hid (Mm w5 72 p' g' f') := by subst h5; exact HQ.out.drewN q5
            have HB5 : Hid (Below w.heap.size w w5) := by subst h5; exact below_drewN HB.out q5
            clear h5 HM HQ HB
            go_wp2_with fail
            refine (byte_t w5 p g f' K HM5.out).mono ?_
            rintro e w' ⟨rfl, rfl⟩
            go_wp2_with fail
            refine (rbyte_t w5 p' g' f' K HQ5.out).mono ?_
            rintro e w' ⟨rfl, rfl⟩
            go_wp2_with fail
            refine (half_t w5 p g f' K HM5.out).mono ?_
            rintro e w' ⟨rfl, rfl⟩
            go_wp2_with fail
            refine (rhalf_t w5 p' g' f' K HQ5.out).mono ?_
            rintro e w6 ⟨rfl, q6, h6⟩
            have HM6 : Hid (Mm w6 68 p g f') := by subst h6; exact HM5.out.drewN q6
            have HQ6 : Hid (Mm w6 72 p' g' f') := by subst h6; exact HQ5.out.drewN q6
            have HB6 : Hid (Below w.heap.size w w6) := by subst h6; exact below_drewN HB5.out q6
            clear h6 HM5 HQ5 HB5
            generalize wordV f' K = v1 at *
            generalize byteV f' K = v2 at *
            generalize halfV f' K = v3 at *
            generalize okW K = o1 at *
            generalize okB K = o2 at *
            generalize okH K = o3 at *
            go_wp2_with fail
            go_roundw
            case rel => exact ⟨k + 1, f', by omega, by go_num, HM6.out, HQ6.out, HB6.out⟩
            case measure => simp [intOf]; omega
      · clear n1
        go_wp2_with fail
        go_ret
        exact ⟨rfl, HB.out⟩
    · have : k = n := by omega
      subst this
      go_wp2_with fail
      go_ret
      exact ⟨rfl, HB.out⟩
theorem memPlays_top (v0 : Value) (w : World) (u0 : Vw.Arg Try.prog w 55 v0) :
    Calls Try.prog 8 #[v0] w fun e w' => e = .returned (.bool true) ∧ Below w.heap.size w w' := by
  obtain ⟨A, n, c, rfl, _, _, _, hr⟩ := u0.rows Try.underlying55 cells_step (by omega)
  exact memPlays_walk A n c w hr
end Go.Proofs.Ytmbaoaoglhonfaa
