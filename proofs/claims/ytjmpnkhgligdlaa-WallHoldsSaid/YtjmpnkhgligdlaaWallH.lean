/- The walk of WallHolds. -/
import Derived.Test.YtjmpnkhgligdlaaWallP
namespace Go.Proofs.Ytjmpnkhgligdlaa
open Go.RowKit On Hv Go.Sort
set_option maxHeartbeats 8000000 in
set_option maxRecDepth 100000 in
theorem wallHolds_walk (A : Option Addr) (n c : Nat) (ref at_ m applet : Int) (w : World) (hr : Vw.RowsOf w A n 5 (Vw.Viewed Try.prog w 74)) :
    Calls Try.prog 10 #[.slice A n c, .int .i64 ref, .int .i64 at_, .int .i64 m, .int .i64 applet] w fun e w' => e = .returned (.bool true) ∧ Below w.heap.size w w' := by
  have n1 := eql_heap
  have HR := Lib.hid hr
  clear hr
  go_enter Try.func10, Try.ntmps10
  go_wp2_with fail
  refine (both_c A n c _ _ (fun es h => viewed_step9 h) HR.out).mono ?_
  rintro e w1 ⟨p, p', L, F, G, rfl, ht⟩
  have HT1 := Lib.hid ht
  clear ht
  go_wp2_with fail
  refine (known9_c w1).mono ?_
  rintro e w2 ⟨rfl, hb⟩
  have HT2 := Lib.hid (HT1.out.keep hb)
  clear hb HT1
  have hlen := HT2.out.i.good.len
  have hllo : 0 ≤ (L.length : Int) := by omega
  have hlhi : (L.length : Int) ≤ 514 := by omega
  go_wp2_with fail
  refine (countI_c w2 _ p 1000 L F HT2.out.i).mono ?_
  rintro e w' ⟨rfl, rfl⟩
  go_wp2_with fail
  refine (pickN ref ((L.length : Int) + 2) (by omega) (by omega) w2).mono ?_
  rintro e w' ⟨rfl, rfl⟩
  obtain ⟨y1, hy1⟩ : ∃ y, ref % ((L.length : Int) + 2) = y := ⟨_, rfl⟩
  have ly1 : 0 ≤ y1 := by rw [← hy1]; exact Int.emod_nonneg _ (by omega)
  have ry1 : y1 < (L.length : Int) + 2 := by rw [← hy1]; exact Int.emod_lt_of_pos _ (by omega)
  rw [hy1]
  clear hy1
  go_wp2_with fail
  refine (pickN at_ (12) (by omega) (by omega) w2).mono ?_
  rintro e w' ⟨rfl, rfl⟩
  obtain ⟨y2, hy2⟩ : ∃ y, at_ % (12) = y := ⟨_, rfl⟩
  have ly2 : 0 ≤ y2 := by rw [← hy2]; exact Int.emod_nonneg _ (by omega)
  have ry2 : y2 < 12 := by rw [← hy2]; exact Int.emod_lt_of_pos _ (by omega)
  rw [hy2]
  clear hy2
  go_wp2_with fail
  refine (pickN m (12) (by omega) (by omega) w2).mono ?_
  rintro e w' ⟨rfl, rfl⟩
  obtain ⟨y3, hy3⟩ : ∃ y, m % (12) = y := ⟨_, rfl⟩
  have ly3 : 0 ≤ y3 := by rw [← hy3]; exact Int.emod_nonneg _ (by omega)
  have ry3 : y3 < 12 := by rw [← hy3]; exact Int.emod_lt_of_pos _ (by omega)
  rw [hy3]
  clear hy3
  go_wp2_with fail
  refine (pickN applet (4) (by omega) (by omega) w2).mono ?_
  rintro e w' ⟨rfl, rfl⟩
  obtain ⟨y4, hy4⟩ : ∃ y, applet % (4) = y := ⟨_, rfl⟩
  have ly4 : 0 ≤ y4 := by rw [← hy4]; exact Int.emod_nonneg _ (by omega)
  have ry4 : y4 < 4 := by rw [← hy4]; exact Int.emod_lt_of_pos _ (by omega)
  rw [hy4]
  clear hy4
  obtain ⟨t, ht⟩ : ∃ t, t = y2 - 1 := ⟨_, rfl⟩
  obtain ⟨u, hu⟩ : ∃ u, u = y3 - 1 := ⟨_, rfl⟩
  go_wp2_with fail
  rw [← ht, ← hu]
  have lt1 : -1 ≤ t := by omega
  have lt2 : t ≤ 10 := by omega
  have lu1 : -1 ≤ u := by omega
  have lu2 : u ≤ 10 := by omega
  clear ht hu ly2 ry2 ly3 ry3
  rcases ref_cases L y1 with hr1 | ⟨i, a, hi, ha⟩
  · have HRR := Lib.hid hr1
    have HS : Hid (rangeS L y1 t u y4 = 28417) := rangeS_ne (checkS_no y4 hr1) (by decide)
    clear hr1
    refine (arrayI_no w2 _ p 1000 L F HT2.out.i y1 HRR.out).mono ?_
    rintro e w3 ⟨rfl, hb⟩
    have HT3 := Lib.hid ((HT2.out.keep hb).keep (w' := w3.alloc (.cells #[.int .i64 0, .int .i64 0, .int .i64 0, .bool false, .slice none 0 0] 37)) ((Below.refl _ _).alloc (Nat.le_refl _) _))
    clear hb HT2
    go_wp2_with fail
    refine (range_c _ _ p 1000 L F y1 t u y4 HT3.out.i).mono ?_
    rintro e w4 ⟨rfl, hb⟩
    rw [HS.out]
    have HT4 := Lib.hid (HT3.out.keep hb)
    clear hb HT3
    go_wp2_with fail
    go_ret
    exact ⟨rfl, HT4.out.below⟩
  · subst hi
    have HA := Lib.hid ha
    have hda : a.data.length ≤ 64 := HT2.out.i.good.data a (List.mem_of_getElem? ha)
    have HC := Lib.hid (checkS_yes y4 ha)
    have HL := Lib.hid (lenS_yes ha)
    clear ha
    obtain ⟨o1, o2, o3, o4, o5⟩ := a
    simp only at hda HC HL
    obtain ⟨dl, hdl⟩ : ∃ dl, dl = o5.length := ⟨_, rfl⟩
    rw [← hdl] at hda HL
    have HDL := Lib.hid hdl
    clear hdl
    refine (arrayI_yes w2 _ p 1000 L F HT2.out.i i _ _ rfl HA.out).mono ?_
    rintro e w3 ⟨D, rfl, hd, hb⟩
    obtain ⟨AD, cD, rfl, _⟩ := hd.slice
    simp only at *
    rw [← HDL.out]
    have hK : Blk (w3.alloc (.cells #[.int .i64 o1, .int .i64 o2, .int .i64 o3, .bool o4, .slice AD dl cD] 37)) w3.heap.size 37 #[.int .i64 o1, .int .i64 o2, .int .i64 o3, .bool o4, .slice AD dl cD] := Blk.new _ _ _
    have HT3 := Lib.hid ((HT2.out.keep hb).keep (w' := w3.alloc (.cells #[.int .i64 o1, .int .i64 o2, .int .i64 o3, .bool o4, .slice AD dl cD] 37)) ((Below.refl _ _).alloc (Nat.le_refl _) _))
    clear hb HT2 hd
    go_wp2_with fail
    refine (range_c _ _ p 1000 L F _ t u y4 HT3.out.i).mono ?_
    rintro e w4 ⟨rfl, hb⟩
    have hK4 : Blk w4 w3.heap.size 37 #[.int .i64 o1, .int .i64 o2, .int .i64 o3, .bool o4, .slice AD dl cD] := hK.only (S := fun _ => False) (Only.of_below hb) id
    have d0 := hK4.cell 0
    have d1 := hK4.cell 1
    have d2 := hK4.cell 2
    have d3 := hK4.cell 3
    have d4 := hK4.cell 4
    simp at d0 d1 d2 d3 d4
    have HT4 := Lib.hid (HT3.out.keep hb)
    clear hb HT3 hK hK4
    cases hm : mayB o1 y4 o4
    · rw [hm, if_neg (by simp)] at HC
      have HS : Hid (rangeS L ((i : Int) + 1) t u y4 = 28420) := rangeS_ne HC.out (by decide)
      rw [HS.out]
      have e1 : (o1 != -1) = true := by unfold mayB at hm; simp at hm; rw [bne_iff_ne]; exact hm.1.1
      have e2 : (o1 != y4) = true := by unfold mayB at hm; simp at hm; rw [bne_iff_ne]; exact hm.1.2
      have e3 : o4 = false := by unfold mayB at hm; simp at hm; exact hm.2
      subst e3
      clear hm
      go_wp2_with fail
      go_ret
      exact ⟨rfl, HT4.out.below⟩
    · rw [hm, if_pos rfl] at HC
      by_cases hg : 0 ≤ t ∧ 0 ≤ u ∧ t + u ≤ (dl : Int)
      · have HS : Hid (rangeS L ((i : Int) + 1) t u y4 = 36864) := rangeS_in HC.out hg.1 hg.2.1 (by rw [HL.out]; omega) (by rw [HL.out]; omega)
        rw [HS.out]
        obtain ⟨g1, g2, g3⟩ := hg
        obtain ⟨T, rfl⟩ := Int.eq_ofNat_of_zero_le g1
        obtain ⟨U, rfl⟩ := Int.eq_ofNat_of_zero_le g2
        have hTU : T + U ≤ dl := by omega
        have hnT : ¬ (T : Int) < 0 := by omega
        have hnU : ¬ (U : Int) < 0 := by omega
        have hnd : ¬ (dl : Int) < (T : Int) + U := by omega
        by_cases q1 : o1 = -1
        · subst q1
          clear hm
          go_wp2_with fail
          go_loopw [15] (fun x wr => ∃ k : Nat, k ≤ U ∧ x = .int .i64 ((T : Int) + k) ∧ wr = w4) (fun x _ => U + T - (intOf x).toNat)
          case atStart => exact ⟨0, Nat.zero_le _, by simp, rfl⟩
          case round =>
            obtain ⟨k, hk, rfl, rfl⟩ := hrel
            by_cases hlt : k < U
            · go_wp2_with fail
              refine (getI_yes wr _ p 1000 L F HT4.out.i i (T + k) _ _ _ rfl HA.out (by omega) (by show T + k < o5.length; rw [← HDL.out]; omega)).mono ?_
              rintro e w' ⟨rfl, rfl⟩
              go_wp2_with fail
              go_roundw
              case rel => exact ⟨k + 1, by omega, by go_num, trivial⟩
              case measure => simp [intOf]; omega
            · have : k = U := by omega
              subst this
              go_wp2_with fail
              go_ret
              exact ⟨rfl, HT4.out.below⟩
        · have e1 : (o1 != -1) = true := bne_iff_ne.mpr q1
          by_cases q2 : o1 = y4
          · subst q2
            clear hm q1
            go_wp2_with fail
            go_loopw [15] (fun x wr => ∃ k : Nat, k ≤ U ∧ x = .int .i64 ((T : Int) + k) ∧ wr = w4) (fun x _ => U + T - (intOf x).toNat)
            case atStart => exact ⟨0, Nat.zero_le _, by simp, rfl⟩
            case round =>
              obtain ⟨k, hk, rfl, rfl⟩ := hrel
              by_cases hlt : k < U
              · go_wp2_with fail
                refine (getI_yes wr _ p 1000 L F HT4.out.i i (T + k) _ _ _ rfl HA.out (by omega) (by show T + k < o5.length; rw [← HDL.out]; omega)).mono ?_
                rintro e w' ⟨rfl, rfl⟩
                go_wp2_with fail
                go_roundw
                case rel => exact ⟨k + 1, by omega, by go_num, trivial⟩
                case measure => simp [intOf]; omega
              · have : k = U := by omega
                subst this
                go_wp2_with fail
                go_ret
                exact ⟨rfl, HT4.out.below⟩
          · have e2 : (o1 != y4) = true := bne_iff_ne.mpr q2
            have e3 : o4 = true := by unfold mayB at hm; simp [q1, q2] at hm; exact hm
            subst e3
            clear hm q1 q2
            go_wp2_with fail
            go_loopw [15] (fun x wr => ∃ k : Nat, k ≤ U ∧ x = .int .i64 ((T : Int) + k) ∧ wr = w4) (fun x _ => U + T - (intOf x).toNat)
            case atStart => exact ⟨0, Nat.zero_le _, by simp, rfl⟩
            case round =>
              obtain ⟨k, hk, rfl, rfl⟩ := hrel
              by_cases hlt : k < U
              · go_wp2_with fail
                refine (getI_yes wr _ p 1000 L F HT4.out.i i (T + k) _ _ _ rfl HA.out (by omega) (by show T + k < o5.length; rw [← HDL.out]; omega)).mono ?_
                rintro e w' ⟨rfl, rfl⟩
                go_wp2_with fail
                go_roundw
                case rel => exact ⟨k + 1, by omega, by go_num, trivial⟩
                case measure => simp [intOf]; omega
              · have : k = U := by omega
                subst this
                go_wp2_with fail
                go_ret
                exact ⟨rfl, HT4.out.below⟩
      · have HS : Hid (rangeS L ((i : Int) + 1) t u y4 = 28418) := rangeS_out HC.out (by rw [HL.out]; omega)
        rw [HS.out]
        clear hm
        by_cases b1 : t < 0
        · clear hg
          go_wp2_with fail
          go_ret
          exact ⟨rfl, HT4.out.below⟩
        · by_cases b2 : u < 0
          · clear hg
            go_wp2_with fail
            go_ret
            exact ⟨rfl, HT4.out.below⟩
          · have b3 : (dl : Int) < t + u := by omega
            clear hg
            go_wp2_with fail
            go_ret
            exact ⟨rfl, HT4.out.below⟩
theorem wallHolds_top (v0 v1 v2 v3 v4 : Value) (w : World) (u0 : Vw.Arg Try.prog w 59 v0) (u1 : Vw.Arg Try.prog w 3 v1) (u2 : Vw.Arg Try.prog w 3 v2) (u3 : Vw.Arg Try.prog w 3 v3) (u4 : Vw.Arg Try.prog w 3 v4) :
    Calls Try.prog 10 #[v0, v1, v2, v3, v4] w fun e w' => e = .returned (.bool true) ∧ Below w.heap.size w w' := by
  obtain ⟨A, n, c, rfl, _, _, _, hr⟩ := u0.rows Try.underlying59 cells_step9 (by omega)
  obtain ⟨x1, rfl, _⟩ := u1.int Try.underlying3
  obtain ⟨x2, rfl, _⟩ := u2.int Try.underlying3
  obtain ⟨x3, rfl, _⟩ := u3.int Try.underlying3
  obtain ⟨x4, rfl, _⟩ := u4.int Try.underlying3
  exact wallHolds_walk A n c x1 x2 x3 x4 w hr
end Go.Proofs.Ytjmpnkhgligdlaa
