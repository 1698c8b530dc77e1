/- The walks of WallKnown, WallTells. -/
import Derived.Test.YtjmpnkhgligdlaaBoth
namespace Go.Proofs.Ytjmpnkhgligdlaa
open Go.RowKit On Hv Go.Sort
theorem check_nil (w : World) (ref applet : Int) :
    Calls Try.prog 32 #[.pointer none, .int .i64 ref, .int .i64 applet] w fun e w' => e = .returned (.int .i64 27013) ∧ w = w' := by
  go_enter Try.func32, Try.ntmps32
  go_wp2
  go_ret
  exact ⟨rfl, rfl⟩
theorem eql_heap (w : World) (a : Addr) : (binOp .eql 23 (.pointer (some a)) (.pointer none)).run Try.prog w = .ok (.bool false) w := by go_simp
theorem neq_heap (w : World) (a : Addr) : (binOp .neq 23 (.pointer (some a)) (.pointer none)).run Try.prog w = .ok (.bool true) w := by go_simp
set_option maxHeartbeats 1000000 in
theorem known9_c (w : World) :
    Calls Try.prog 31 #[] w fun e w' => e = .returned (.bool true) ∧ Below w.heap.size w w' := by
  have n1 := neq_heap
  have k1 : Hid (checkS [buf0, buf1] 0 1 = 28417) := by unfold Hid checkS; simp
  have k2 : Hid (checkS [buf0, buf1] 1 1 = 36864) := by unfold Hid checkS; simp [mayB, buf0]
  go_enter Try.func31, Try.ntmps31
  go_wp2_with fail
  refine (newI_c w 64 (by omega) (by omega)).mono ?_
  rintro e w1 ⟨p, F, rfl, hi, hb1⟩
  have HI : Hid (AtI w1 w.heap.size p 64 [buf0, buf1] F) := hi
  have HB1 := Lib.hid hb1
  clear hi hb1
  go_wp2_with fail
  refine (check_c w1 w.heap.size p 64 _ F 0 1 HI.out).mono ?_
  rintro e w2 ⟨rfl, hb⟩
  rw [k1.out]
  have HB2 := Lib.hid (HB1.out.trans (hb.mono HB1.out.size))
  have HI2 : Hid (AtI w2 w.heap.size p 64 [buf0, buf1] F) := HI.out.below hb
  clear hb HB1 HI
  go_wp2_with fail
  refine (check_c w2 w.heap.size p 64 _ F 1 1 HI2.out).mono ?_
  rintro e w3 ⟨rfl, hb⟩
  rw [k2.out]
  have HB3 := Lib.hid (HB2.out.trans (hb.mono HB2.out.size))
  clear hb HB2 HI2
  go_wp2_with fail
  refine (check_nil w3 1 1).mono ?_
  rintro e w4 ⟨rfl, rfl⟩
  go_wp2_with fail
  go_ret
  exact ⟨rfl, HB3.out⟩
def L2 : List Ar := [buf0, buf1, fresh 1 3 0 false 4, fresh 1 3 0 true 4]
theorem L2_eq : allocL 64 (allocL 64 [buf0, buf1] 1 3 0 false 4) 1 3 0 true 4 = L2 := by
  have e1 : allocL 64 [buf0, buf1] 1 3 0 false 4 = [buf0, buf1, fresh 1 3 0 false 4] := by
    unfold allocL; rw [if_pos (by unfold Fits used; simp [sizes])]; rfl
  rw [e1]
  unfold allocL; rw [if_pos (by unfold Fits used; simp [sizes, fresh])]; rfl
theorem c30 : checkS L2 3 0 = 28420 := by simp [checkS, L2, mayB, fresh]
theorem c31 : checkS L2 3 1 = 36864 := by simp [checkS, L2, mayB, fresh]
theorem c40 : checkS L2 4 0 = 36864 := by simp [checkS, L2, mayB, fresh]
theorem c50 : checkS L2 5 0 = 28417 := by simp [checkS, L2]
theorem l3 : lenS L2 3 = 4 := by simp [lenS, L2, fresh]
theorem r1 : rangeS L2 3 0 4 1 = 36864 := by unfold rangeS; rw [c31, l3]; decide
theorem r2 : rangeS L2 3 1 4 1 = 28418 := by unfold rangeS; rw [c31, l3]; decide
theorem r3 : rangeS L2 3 4 0 1 = 36864 := by unfold rangeS; rw [c31, l3]; decide
theorem r4 : rangeS L2 3 (-1) 1 1 = 28418 := by unfold rangeS; rw [c31, l3]; decide
theorem r5 : rangeS L2 3 0 (-1) 1 = 28418 := by unfold rangeS; rw [c31, l3]; decide
theorem r6 : rangeS L2 3 9 9 0 = 28420 := by unfold rangeS; rw [c30]; decide
set_option maxHeartbeats 2000000 in
set_option maxRecDepth 100000 in
theorem wallKnown_walk (w : World) :
    Calls Try.prog 7 #[] w fun e w' => e = .returned (.bool true) ∧ Below w.heap.size w w' := by
  have n1 := eql_heap
  go_enter Try.func7, Try.ntmps7
  go_wp2_with fail
  refine (newI_c w 64 (by omega) (by omega)).mono ?_
  rintro e w1 ⟨p, F, rfl, hi, hb1⟩
  have HI : Hid (AtI w1 w.heap.size p 64 [buf0, buf1] F) := hi
  have HB1 := Lib.hid hb1
  clear hi hb1
  go_wp2_with fail
  refine (known9_c w1).mono ?_
  rintro e w2 ⟨rfl, hb⟩
  have HB2 := Lib.hid (HB1.out.trans (hb.mono HB1.out.size))
  have HI2 : Hid (AtI w2 w.heap.size p 64 [buf0, buf1] F) := HI.out.below hb
  clear hb HB1 HI
  go_wp2_with fail
  refine (allocI_any w2 w.heap.size p 64 _ F 1 3 0 4 false HI2.out (by omega) (by omega)).mono ?_
  rintro e w3 ⟨rfl, hi, hO⟩
  have HI3 : Hid (AtI w3 w.heap.size p 64 (allocL 64 [buf0, buf1] 1 3 0 false 4) (More F w2 w3)) := hi
  have HB3 : Hid (Below w.heap.size w w3) := HB2.out.trans (hO.below HB2.out.size (fun k hk => (HI2.out.lt hk).1))
  clear hi hO HB2 HI2
  go_wp2_with fail
  refine (allocI_any w3 w.heap.size p 64 _ _ 1 3 0 4 true HI3.out (by omega) (by omega)).mono ?_
  rintro e w4 ⟨rfl, hi, hO⟩
  rw [L2_eq] at hi
  obtain ⟨G, hG⟩ : ∃ G, G = More (More F w2 w3) w3 w4 := ⟨_, rfl⟩
  rw [← hG] at hi
  have HI4 : Hid (AtI w4 w.heap.size p 64 L2 G) := hi
  have HB4 : Hid (Below w.heap.size w w4) := HB3.out.trans (hO.below HB3.out.size (fun k hk => (HI3.out.lt hk).1))
  clear hi hO HB3 HI3 hG
  go_wp2_with fail
  refine (check_c w4 w.heap.size p 64 L2 G 3 0 HI4.out).mono ?_
  rintro e w5 ⟨rfl, hb⟩
  rw [c30]
  have HB5 := Lib.hid (HB4.out.trans (hb.mono HB4.out.size))
  have HI5 : Hid (AtI w5 w.heap.size p 64 L2 G) := HI4.out.below hb
  clear hb HB4 HI4
  go_wp2_with fail
  refine (check_c w5 w.heap.size p 64 L2 G 3 1 HI5.out).mono ?_
  rintro e w6 ⟨rfl, hb⟩
  rw [c31]
  have HB6 := Lib.hid (HB5.out.trans (hb.mono HB5.out.size))
  have HI6 : Hid (AtI w6 w.heap.size p 64 L2 G) := HI5.out.below hb
  clear hb HB5 HI5
  go_wp2_with fail
  refine (check_c w6 w.heap.size p 64 L2 G 4 0 HI6.out).mono ?_
  rintro e w7 ⟨rfl, hb⟩
  rw [c40]
  have HB7 := Lib.hid (HB6.out.trans (hb.mono HB6.out.size))
  have HI7 : Hid (AtI w7 w.heap.size p 64 L2 G) := HI6.out.below hb
  clear hb HB6 HI6
  go_wp2_with fail
  refine (check_c w7 w.heap.size p 64 L2 G 5 0 HI7.out).mono ?_
  rintro e w8 ⟨rfl, hb⟩
  rw [c50]
  have HB8 := Lib.hid (HB7.out.trans (hb.mono HB7.out.size))
  have HI8 : Hid (AtI w8 w.heap.size p 64 L2 G) := HI7.out.below hb
  clear hb HB7 HI7
  go_wp2_with fail
  refine (range_c w8 w.heap.size p 64 L2 G 3 0 4 1 HI8.out).mono ?_
  rintro e w9 ⟨rfl, hb⟩
  rw [r1]
  have HB9 := Lib.hid (HB8.out.trans (hb.mono HB8.out.size))
  have HI9 : Hid (AtI w9 w.heap.size p 64 L2 G) := HI8.out.below hb
  clear hb HB8 HI8
  go_wp2_with fail
  refine (range_c w9 w.heap.size p 64 L2 G 3 1 4 1 HI9.out).mono ?_
  rintro e w10 ⟨rfl, hb⟩
  rw [r2]
  have HB10 := Lib.hid (HB9.out.trans (hb.mono HB9.out.size))
  have HI10 : Hid (AtI w10 w.heap.size p 64 L2 G) := HI9.out.below hb
  clear hb HB9 HI9
  go_wp2_with fail
  refine (range_c w10 w.heap.size p 64 L2 G 3 4 0 1 HI10.out).mono ?_
  rintro e w11 ⟨rfl, hb⟩
  rw [r3]
  have HB11 := Lib.hid (HB10.out.trans (hb.mono HB10.out.size))
  have HI11 : Hid (AtI w11 w.heap.size p 64 L2 G) := HI10.out.below hb
  clear hb HB10 HI10
  go_wp2_with fail
  refine (range_c w11 w.heap.size p 64 L2 G 3 (-1) 1 1 HI11.out).mono ?_
  rintro e w12 ⟨rfl, hb⟩
  rw [r4]
  have HB12 := Lib.hid (HB11.out.trans (hb.mono HB11.out.size))
  have HI12 : Hid (AtI w12 w.heap.size p 64 L2 G) := HI11.out.below hb
  clear hb HB11 HI11
  go_wp2_with fail
  refine (range_c w12 w.heap.size p 64 L2 G 3 0 (-1) 1 HI12.out).mono ?_
  rintro e w13 ⟨rfl, hb⟩
  rw [r5]
  have HB13 := Lib.hid (HB12.out.trans (hb.mono HB12.out.size))
  have HI13 : Hid (AtI w13 w.heap.size p 64 L2 G) := HI12.out.below hb
  clear hb HB12 HI12
  go_wp2_with fail
  refine (range_c w13 w.heap.size p 64 L2 G 3 9 9 0 HI13.out).mono ?_
  rintro e w14 ⟨rfl, hb⟩
  rw [r6]
  have HB14 := Lib.hid (HB13.out.trans (hb.mono HB13.out.size))
  have HI14 : Hid (AtI w14 w.heap.size p 64 L2 G) := HI13.out.below hb
  clear hb HB13 HI13
  go_wp2_with fail
  refine (may_c 2 0 0 2 false none 0 0 _).mono ?_
  rintro e wa ⟨rfl, hb⟩
  have HBa := Lib.hid (HB14.out.trans (hb.mono HB14.out.size))
  clear hb HB14
  rw [show mayB 2 2 false = true from rfl]
  go_wp2_with fail
  refine (may_c 2 0 0 1 false none 0 0 _).mono ?_
  rintro e wb ⟨rfl, hb⟩
  have HBb := Lib.hid (HBa.out.trans (hb.mono HBa.out.size))
  clear hb HBa
  rw [show mayB 2 1 false = false from rfl]
  go_wp2_with fail
  go_ret
  exact ⟨rfl, HBb.out⟩
theorem wallKnown_top (w : World) : Calls Try.prog 7 #[] w fun e w' => e = .returned (.bool true) ∧ Below w.heap.size w w' := wallKnown_walk w
end Go.Proofs.Ytjmpnkhgligdlaa
