/- The walks of WallParts, WallHolds. -/
import Derived.Test.YtjmpnkhgligdlaaWallT
namespace Go.Proofs.Ytjmpnkhgligdlaa
open Go.RowKit On Hv Go.Sort
theorem countI_c (w : World) (B p : Nat) (sz : Int) (L : List Ar) (F : Nat → Prop) (h : AtI w B p sz L F) :
    Calls Try.prog 18 #[.pointer (some ⟨p, 0, none⟩)] w fun e w' => e = .returned (.int .i64 L.length) ∧ w = w' := by
  obtain ⟨q, c, R, h1, _, _, h4, _⟩ := h.open
  rw [← h4]
  exact count_c w B p sz _ R h1
theorem getI_yes (w : World) (B p : Nat) (sz : Int) (L : List Ar) (F : Nat → Prop) (h : AtI w B p sz L F) (i j : Nat) (a : Ar) (ref at_ : Int) (hi : ref = i + 1) (ha : L[i]? = some a) (hj : at_ = j) (hd : j < a.data.length) :
    Calls Try.prog 19 #[.pointer (some ⟨p, 0, none⟩), .int .i64 ref, .int .i64 at_] w fun e w' => e = .returned (.tuple #[.int .u8 (a.data.getD j 0), .bool true]) ∧ w = w' := by
  obtain ⟨q, c, R, h1, h2, h3, h4, h5, h6, h7, h8, h9, h10, h11⟩ := h.open
  have hlen := h5.len
  obtain ⟨D, hx⟩ := map_get h3 ha
  have hiL : i < L.length := (List.getElem?_eq_some_iff.mp ha).1
  have := h5.data a (List.mem_of_getElem? ha)
  exact get_yes w B p sz q L.length c i j R (a, D) ref at_ h1 (by omega) (by omega) (by omega) hx (by omega) hj hd (by show a.data.length ≤ 1000000; omega)
theorem rangeS_ne {L : List Ar} {ref at_ n applet : Int} {c : Int} (h : checkS L ref applet = c) (hc : c ≠ 36864) : rangeS L ref at_ n applet = c := by
  unfold rangeS; rw [h, if_neg hc]
theorem rangeS_in {L : List Ar} {ref at_ n applet : Int} (h : checkS L ref applet = 36864) (h0 : 0 ≤ at_) (h1 : 0 ≤ n) (h2 : at_ ≤ lenS L ref) (h3 : n ≤ lenS L ref - at_) : rangeS L ref at_ n applet = 36864 := by
  unfold rangeS; rw [if_pos h, if_neg (by omega)]
theorem rangeS_out {L : List Ar} {ref at_ n applet : Int} (h : checkS L ref applet = 36864) (hb : at_ < 0 ∨ n < 0 ∨ lenS L ref < at_ ∨ lenS L ref - at_ < n) : rangeS L ref at_ n applet = 28418 := by
  unfold rangeS; rw [if_pos h, if_pos hb]
theorem checkS_vals (L : List Ar) (ref applet : Int) : checkS L ref applet = 28417 ∨ checkS L ref applet = 28420 ∨ checkS L ref applet = 36864 := by
  unfold checkS
  split
  · exact .inl rfl
  · split
    · exact .inl rfl
    · split
      · exact .inr (.inr rfl)
      · exact .inr (.inl rfl)
set_option maxHeartbeats 4000000 in
set_option maxRecDepth 100000 in
theorem wallParts_walk (A : Option Addr) (n c : Nat) (ref at_ m applet from_ less : Int) (w : World) (hr : Vw.RowsOf w A n 5 (Vw.Viewed Try.prog w 74)) :
    Calls Try.prog 9 #[.slice A n c, .int .i64 ref, .int .i64 at_, .int .i64 m, .int .i64 applet, .int .i64 from_, .int .i64 less] w fun e w' => e = .returned (.bool true) ∧ Below w.heap.size w w' := by
  have n1 := eql_heap
  have HR := Lib.hid hr
  clear hr
  go_enter Try.func9, Try.ntmps9
  go_wp2_with fail
  refine (both_c A n c _ _ (fun es h => viewed_step9 h) HR.out).mono ?_
  rintro e w1 ⟨p, p', L, F, G, rfl, ht⟩
  have HT1 := Lib.hid ht
  clear ht
  go_wp2_with fail
  refine (known9_c w1).mono ?_
  rintro e w2 ⟨rfl, hb⟩
  have HT2 := Lib.hid (HT1.out.keep hb)
  clear hb HT1
  have hlen := HT2.out.i.good.len
  have hllo : 0 ≤ (L.length : Int) := by omega
  have hlhi : (L.length : Int) ≤ 514 := by omega
  go_wp2_with fail
  refine (countI_c w2 _ p 1000 L F HT2.out.i).mono ?_
  rintro e w' ⟨rfl, rfl⟩
  go_wp2_with fail
  refine (pickN ref ((L.length : Int) + 2) (by omega) (by omega) w2).mono ?_
  rintro e w' ⟨rfl, rfl⟩
  obtain ⟨y1, hy1⟩ : ∃ y, ref % ((L.length : Int) + 2) = y := ⟨_, rfl⟩
  have ly1 : 0 ≤ y1 := by rw [← hy1]; exact Int.emod_nonneg _ (by omega)
  have ry1 : y1 < (L.length : Int) + 2 := by rw [← hy1]; exact Int.emod_lt_of_pos _ (by omega)
  rw [hy1]
  clear hy1
  go_wp2_with fail
  refine (pickN at_ (10) (by omega) (by omega) w2).mono ?_
  rintro e w' ⟨rfl, rfl⟩
  obtain ⟨y2, hy2⟩ : ∃ y, at_ % (10) = y := ⟨_, rfl⟩
  have ly2 : 0 ≤ y2 := by rw [← hy2]; exact Int.emod_nonneg _ (by omega)
  have ry2 : y2 < 10 := by rw [← hy2]; exact Int.emod_lt_of_pos _ (by omega)
  rw [hy2]
  clear hy2
  go_wp2_with fail
  refine (pickN m (10) (by omega) (by omega) w2).mono ?_
  rintro e w' ⟨rfl, rfl⟩
  obtain ⟨y3, hy3⟩ : ∃ y, m % (10) = y := ⟨_, rfl⟩
  have ly3 : 0 ≤ y3 := by rw [← hy3]; exact Int.emod_nonneg _ (by omega)
  have ry3 : y3 < 10 := by rw [← hy3]; exact Int.emod_lt_of_pos _ (by omega)
  rw [hy3]
  clear hy3
  go_wp2_with fail
  refine (pickN applet (4) (by omega) (by omega) w2).mono ?_
  rintro e w' ⟨rfl, rfl⟩
  obtain ⟨y4, hy4⟩ : ∃ y, applet % (4) = y := ⟨_, rfl⟩
  have ly4 : 0 ≤ y4 := by rw [← hy4]; exact Int.emod_nonneg _ (by omega)
  have ry4 : y4 < 4 := by rw [← hy4]; exact Int.emod_lt_of_pos _ (by omega)
  rw [hy4]
  clear hy4
  go_wp2_with fail
  refine (pickN from_ (y3 + 1) (by omega) (by omega) w2).mono ?_
  rintro e w' ⟨rfl, rfl⟩
  obtain ⟨y5, hy5⟩ : ∃ y, from_ % (y3 + 1) = y := ⟨_, rfl⟩
  have ly5 : 0 ≤ y5 := by rw [← hy5]; exact Int.emod_nonneg _ (by omega)
  have ry5 : y5 < y3 + 1 := by rw [← hy5]; exact Int.emod_lt_of_pos _ (by omega)
  rw [hy5]
  clear hy5
  go_wp2_with fail
  refine (pickN less (y3 - y5 + 1) (by omega) (by omega) w2).mono ?_
  rintro e w' ⟨rfl, rfl⟩
  obtain ⟨y6, hy6⟩ : ∃ y, less % (y3 - y5 + 1) = y := ⟨_, rfl⟩
  have ly6 : 0 ≤ y6 := by rw [← hy6]; exact Int.emod_nonneg _ (by omega)
  have ry6 : y6 < y3 - y5 + 1 := by rw [← hy6]; exact Int.emod_lt_of_pos _ (by omega)
  rw [hy6]
  clear hy6
  rcases checkS_vals L y1 y4 with hc | hc | hc
  · have HC := Lib.hid hc
    have HS : Hid (rangeS L y1 y2 y3 y4 = 28417) := rangeS_ne hc (by decide)
    have HTT : Hid (rangeS L y1 (y2 + y5) (y3 - y5 - y6) y4 = 28417) := rangeS_ne hc (by decide)
    clear hc
    go_wp2_with fail
    refine (range_c w2 _ p 1000 L F (y1) (y2) (y3) (y4) HT2.out.i).mono ?_
    rintro e w3 ⟨rfl, hb⟩
    rw [HS.out]
    have HT3 := Lib.hid (HT2.out.keep hb)
    clear hb HT2
    go_wp2_with fail
    refine (range_c w3 _ p 1000 L F (y1) (y2 + y5) (y3 - y5 - y6) (y4) HT3.out.i).mono ?_
    rintro e w4 ⟨rfl, hb⟩
    rw [HTT.out]
    have HT4 := Lib.hid (HT3.out.keep hb)
    clear hb HT3
    go_wp2_with fail
    refine (check_c w4 _ p 1000 L F (y1) (y4) HT4.out.i).mono ?_
    rintro e w5 ⟨rfl, hb⟩
    rw [HC.out]
    have HT5 := Lib.hid (HT4.out.keep hb)
    clear hb HT4
    go_wp2_with fail
    go_ret
    exact ⟨rfl, HT5.out.below⟩
  · have HC := Lib.hid hc
    have HS : Hid (rangeS L y1 y2 y3 y4 = 28420) := rangeS_ne hc (by decide)
    have HTT : Hid (rangeS L y1 (y2 + y5) (y3 - y5 - y6) y4 = 28420) := rangeS_ne hc (by decide)
    clear hc
    go_wp2_with fail
    refine (range_c w2 _ p 1000 L F (y1) (y2) (y3) (y4) HT2.out.i).mono ?_
    rintro e w3 ⟨rfl, hb⟩
    rw [HS.out]
    have HT3 := Lib.hid (HT2.out.keep hb)
    clear hb HT2
    go_wp2_with fail
    refine (range_c w3 _ p 1000 L F (y1) (y2 + y5) (y3 - y5 - y6) (y4) HT3.out.i).mono ?_
    rintro e w4 ⟨rfl, hb⟩
    rw [HTT.out]
    have HT4 := Lib.hid (HT3.out.keep hb)
    clear hb HT3
    go_wp2_with fail
    refine (check_c w4 _ p 1000 L F (y1) (y4) HT4.out.i).mono ?_
    rintro e w5 ⟨rfl, hb⟩
    rw [HC.out]
    have HT5 := Lib.hid (HT4.out.keep hb)
    clear hb HT4
    go_wp2_with fail
    go_ret
    exact ⟨rfl, HT5.out.below⟩
  · have HC := Lib.hid hc
    by_cases hg : y2 ≤ lenS L y1 ∧ y3 ≤ lenS L y1 - y2
    · have HS : Hid (rangeS L y1 y2 y3 y4 = 36864) := rangeS_in hc (by omega) (by omega) hg.1 hg.2
      have HTT : Hid (rangeS L y1 (y2 + y5) (y3 - y5 - y6) y4 = 36864) := rangeS_in hc (by omega) (by omega) (by omega) (by omega)
      have HU : Hid (rangeS L y1 y2 0 y4 = 36864) := rangeS_in hc (by omega) (by omega) (by omega) (by omega)
      clear hc hg
      go_wp2_with fail
      refine (range_c w2 _ p 1000 L F (y1) (y2) (y3) (y4) HT2.out.i).mono ?_
      rintro e w3 ⟨rfl, hb⟩
      rw [HS.out]
      have HT3 := Lib.hid (HT2.out.keep hb)
      clear hb HT2
      go_wp2_with fail
      refine (range_c w3 _ p 1000 L F (y1) (y2 + y5) (y3 - y5 - y6) (y4) HT3.out.i).mono ?_
      rintro e w4 ⟨rfl, hb⟩
      rw [HTT.out]
      have HT4 := Lib.hid (HT3.out.keep hb)
      clear hb HT3
      go_wp2_with fail
      refine (range_c w4 _ p 1000 L F (y1) (y2) (0) (y4) HT4.out.i).mono ?_
      rintro e w5 ⟨rfl, hb⟩
      rw [HU.out]
      have HT5 := Lib.hid (HT4.out.keep hb)
      clear hb HT4
      go_wp2_with fail
      refine (check_c w5 _ p 1000 L F (y1) (y4) HT5.out.i).mono ?_
      rintro e w6 ⟨rfl, hb⟩
      rw [HC.out]
      have HT6 := Lib.hid (HT5.out.keep hb)
      clear hb HT5
      go_wp2_with fail
      go_ret
      exact ⟨rfl, HT6.out.below⟩
    · have HS : Hid (rangeS L y1 y2 y3 y4 = 28418) := rangeS_out hc (by omega)
      have HU : Hid (rangeS L y1 y2 (y3 + 1 + y6) y4 = 28418) := rangeS_out hc (by omega)
      clear hc hg
      go_wp2_with fail
      refine (range_c w2 _ p 1000 L F (y1) (y2) (y3) (y4) HT2.out.i).mono ?_
      rintro e w3 ⟨rfl, hb⟩
      rw [HS.out]
      have HT3 := Lib.hid (HT2.out.keep hb)
      clear hb HT2
      go_wp2_with fail
      refine (range_c w3 _ p 1000 L F (y1) (y2 + y5) (y3 - y5 - y6) (y4) HT3.out.i).mono ?_
      rintro e w4 ⟨rfl, hb⟩
      have HT4 := Lib.hid (HT3.out.keep hb)
      clear hb HT3
      go_wp2_with fail
      refine (range_c w4 _ p 1000 L F (y1) (y2) (y3 + 1 + y6) (y4) HT4.out.i).mono ?_
      rintro e w5 ⟨rfl, hb⟩
      rw [HU.out]
      have HT5 := Lib.hid (HT4.out.keep hb)
      clear hb HT4
      go_wp2_with fail
      refine (check_c w5 _ p 1000 L F (y1) (y4) HT5.out.i).mono ?_
      rintro e w6 ⟨rfl, hb⟩
      rw [HC.out]
      have HT6 := Lib.hid (HT5.out.keep hb)
      clear hb HT5
      go_wp2_with fail
      go_ret
      exact ⟨rfl, HT6.out.below⟩
theorem wallParts_top (v0 v1 v2 v3 v4 v5 v6 : Value) (w : World) (u0 : Vw.Arg Try.prog w 59 v0) (u1 : Vw.Arg Try.prog w 3 v1) (u2 : Vw.Arg Try.prog w 3 v2) (u3 : Vw.Arg Try.prog w 3 v3) (u4 : Vw.Arg Try.prog w 3 v4) (u5 : Vw.Arg Try.prog w 3 v5) (u6 : Vw.Arg Try.prog w 3 v6) :
    Calls Try.prog 9 #[v0, v1, v2, v3, v4, v5, v6] w fun e w' => e = .returned (.bool true) ∧ Below w.heap.size w w' := by
  obtain ⟨A, n, c, rfl, _, _, _, hr⟩ := u0.rows Try.underlying59 cells_step9 (by omega)
  obtain ⟨x1, rfl, _⟩ := u1.int Try.underlying3
  obtain ⟨x2, rfl, _⟩ := u2.int Try.underlying3
  obtain ⟨x3, rfl, _⟩ := u3.int Try.underlying3
  obtain ⟨x4, rfl, _⟩ := u4.int Try.underlying3
  obtain ⟨x5, rfl, _⟩ := u5.int Try.underlying3
  obtain ⟨x6, rfl, _⟩ := u6.int Try.underlying3
  exact wallParts_walk A n c x1 x2 x3 x4 x5 x6 w hr
end Go.Proofs.Ytjmpnkhgligdlaa
