/- The walk of HeapForgets. -/
import Derived.Test.YtjmpnkhgligdlaaH8k
import Derived.Test.YtjmpnkhgligdlaaWallT
import Derived.Deep.RegionHeld3
import Derived.Deep.CutBlock
namespace Go.Proofs.Ytjmpnkhgligdlaa
open Go.RowKit On Hv Go.Sort
theorem cells_step8 : Try.prog.cellsOf 31 = 7 := by kernel_rfl
theorem viewed_step8 {w : World} {es : List Value} (h : Vw.Viewed Try.prog w 31 es) :
    ∃ (x1 x2 x3 x4 x5 : Int) (b : Bool) (A : Option Addr) (n c : Nat), es = [.int .i64 x1, .int .i64 x2, .int .i64 x3, .int .i64 x4, .int .i64 x5, .bool b, .slice A n c] ∧ Vw.Viewed Try.prog w 29 [.slice A n c] := by
  obtain ⟨hl, hf⟩ := Vw.viewed_struct Try.underlying31 h
  rw [cells_step8] at hl
  have f0 : Vw.Viewed Try.prog w 3 ((es.drop 0).take (Try.prog.cellsOf 3)) := hf 0 _ rfl
  have f1 : Vw.Viewed Try.prog w 3 ((es.drop 1).take (Try.prog.cellsOf 3)) := hf 1 _ rfl
  have f2 : Vw.Viewed Try.prog w 3 ((es.drop 2).take (Try.prog.cellsOf 3)) := hf 2 _ rfl
  have f3 : Vw.Viewed Try.prog w 3 ((es.drop 3).take (Try.prog.cellsOf 3)) := hf 3 _ rfl
  have f4 : Vw.Viewed Try.prog w 3 ((es.drop 4).take (Try.prog.cellsOf 3)) := hf 4 _ rfl
  have f5 : Vw.Viewed Try.prog w 4 ((es.drop 5).take (Try.prog.cellsOf 4)) := hf 5 _ rfl
  have f6 : Vw.Viewed Try.prog w 29 ((es.drop 6).take (Try.prog.cellsOf 29)) := hf 6 _ rfl
  rw [cells_int] at f0 f1 f2 f3 f4
  rw [cells_bool] at f5
  rw [cells_bytes] at f6
  have f6' := f6
  obtain ⟨n0, e0, _⟩ := Vw.viewed_int Try.underlying3 f0
  obtain ⟨n1, e1, _⟩ := Vw.viewed_int Try.underlying3 f1
  obtain ⟨n2, e2, _⟩ := Vw.viewed_int Try.underlying3 f2
  obtain ⟨n3, e3, _⟩ := Vw.viewed_int Try.underlying3 f3
  obtain ⟨n4, e4, _⟩ := Vw.viewed_int Try.underlying3 f4
  obtain ⟨b, e5⟩ := Vw.viewed_bool Try.underlying4 f5
  rcases Vw.viewed_slice Try.underlying29 f6 with e6 | ⟨a, len, cap, e6, _⟩
  all_goals
    rw [e6] at f6'
    match es, hl with
    | [a, b', c', d, e, f, g], _ =>
      simp at e0 e1 e2 e3 e4 e5 e6
      subst e0; subst e1; subst e2; subst e3; subst e4; subst e5; subst e6
      exact ⟨_, _, _, _, _, _, _, _, _, rfl, f6'⟩
theorem rd_5 (w : World) : Rd (w.alloc (.cells #[.int .u8 5] 5)) (.slice (some ⟨w.heap.size, 0, none⟩) 1 1) [5] := by
  have := Src.block w 5 1 [.int .u8 5] rfl (by simp [Value.oneCell']) (0, 0)
  exact ⟨_, 1, rfl, nofun, ⟨rfl, nofun, this.cell, this.one⟩, by simp⟩
theorem clr_owner (l o : Int) (a : Ar) : (clr1 l o a).owner = a.owner := by unfold clr1; split <;> rfl
theorem clr_label (l o : Int) (a : Ar) : (clr1 l o a).label = a.label := by unfold clr1; split <;> rfl
theorem clr_life (l o : Int) (a : Ar) : (clr1 l o a).life = a.life := by unfold clr1; split <;> rfl
theorem clr_share (l o : Int) (a : Ar) : (clr1 l o a).share = a.share := by unfold clr1; split <;> rfl
theorem clr_len (l o : Int) (a : Ar) : (clr1 l o a).data.length = a.data.length := by unfold clr1; split <;> simp [zeros, Ar.with']
theorem clr_data (l o : Int) (a : Ar) : (goneB l o a = true → ∀ j, (clr1 l o a).data.getD j 0 = 0) ∧ (goneB l o a = false → (clr1 l o a).data = a.data) := by
  unfold clr1
  refine ⟨fun h j => ?_, fun h => ?_⟩
  · rw [if_pos h]; simp [zeros, Ar.with', List.getD_eq_getElem?_getD, List.getElem?_replicate]; split <;> rfl
  · rw [if_neg (by simp [h])]
/-- x := l[i] : the cells of the step in the old world, read in the new one -/
theorem step8_cells {w wr : World} {A : Option Addr} {n k : Nat} (hr : Vw.RowsOf w A n 7 (Vw.Viewed Try.prog w 31)) (hb : Below w.heap.size w wr) (hk : k < n) :
    ∃ b o, A = some ⟨b, o, none⟩ ∧ ∃ (x1 x2 x3 x4 x5 : Int) (sh : Bool) (AX : Option Addr) (nX cX : Nat), Vw.Viewed Try.prog w 29 [.slice AX nX cX] ∧
      wr.cell? ⟨b, o + k * 7, none⟩ = some (.int .i64 x1) ∧ wr.cell? ⟨b, o + k * 7 + 1, none⟩ = some (.int .i64 x2) ∧ wr.cell? ⟨b, o + k * 7 + 2, none⟩ = some (.int .i64 x3) ∧ wr.cell? ⟨b, o + k * 7 + 3, none⟩ = some (.int .i64 x4) ∧
      wr.cell? ⟨b, o + k * 7 + 4, none⟩ = some (.int .i64 x5) ∧ wr.cell? ⟨b, o + k * 7 + 5, none⟩ = some (.bool sh) ∧ wr.cell? ⟨b, o + k * 7 + 6, none⟩ = some (.slice AX nX cX) := by
  cases A with
  | none => have := hr.none_ rfl; omega
  | some ad =>
    obtain ⟨b, o, s⟩ := ad
    obtain ⟨rfl, hbw, es, hl, hv, hc⟩ := hr.cell b o s k rfl hk
    obtain ⟨x1, x2, x3, x4, x5, sh, AX, nX, cX, rfl, hX⟩ := viewed_step8 hv
    have HO : Only (fun _ => False) w wr := Only.of_below hb
    refine ⟨b, o, rfl, x1, x2, x3, x4, x5, sh, AX, nX, cX, hX, ?_, ?_, ?_, ?_, ?_, ?_, ?_⟩
    · rw [HO.cell (p := ⟨b, o + k * 7, none⟩) hbw id]; exact hc 0 (by omega)
    · rw [HO.cell (p := ⟨b, o + k * 7 + 1, none⟩) hbw id]; exact hc 1 (by omega)
    · rw [HO.cell (p := ⟨b, o + k * 7 + 2, none⟩) hbw id]; exact hc 2 (by omega)
    · rw [HO.cell (p := ⟨b, o + k * 7 + 3, none⟩) hbw id]; exact hc 3 (by omega)
    · rw [HO.cell (p := ⟨b, o + k * 7 + 4, none⟩) hbw id]; exact hc 4 (by omega)
    · rw [HO.cell (p := ⟨b, o + k * 7 + 5, none⟩) hbw id]; exact hc 5 (by omega)
    · rw [HO.cell (p := ⟨b, o + k * 7 + 6, none⟩) hbw id]; exact hc 6 (by omega)
set_option maxHeartbeats 8000000 in
set_option maxRecDepth 100000 in
theorem heapForgets_walk (A : Option Addr) (n c : Nat) (life owner : Int) (w : World) (hr : Vw.RowsOf w A n 7 (Vw.Viewed Try.prog w 31)) :
    Calls Try.prog 6 #[.slice A n c, .int .i64 life, .int .i64 owner] w fun e w' => e = .returned (.bool true) ∧ Below w.heap.size w w' := by
  have n1 := eql_heap
  have HR := Lib.hid hr; clear hr
  go_enter Try.func6, Try.ntmps6
  go_wp2_with fail
  refine (newI_c w 4096 (by omega) (by omega)).mono ?_
  rintro e w1 ⟨p, F, rfl, hi, hb1⟩
  have HI1 : Hid (AtI w1 w.heap.size p 4096 [buf0, buf1] F) := hi
  have HB1 := Lib.hid hb1
  clear hi hb1
  go_wp2_with fail
  refine (known8_c w1).mono ?_
  rintro e w2 ⟨rfl, hb⟩
  have HB2 := Lib.hid (HB1.out.trans (hb.mono HB1.out.size))
  have HI2 : Hid (AtI w2 w.heap.size p 4096 [buf0, buf1] F) := HI1.out.below hb
  clear hb HB1 HI1
  go_upto_block 0 with (fail)
  go_cut [9] (fun _ wx => ∃ (k : Nat) (L : List Ar) (F : Nat → Prop), k ≤ 40 ∧ L.length = k + 2 ∧ AtI wx w.heap.size p 4096 L F ∧ Below w.heap.size w wx)
  case first =>
    go_wp2_with fail
    go_loopw [9] (fun i wr => ∃ (k : Nat) (L : List Ar) (F : Nat → Prop), k ≤ n ∧ k ≤ 40 ∧ i = .int .i64 k ∧ L.length = k + 2 ∧ used L ≤ 28 * k ∧ AtI wr w.heap.size p 4096 L F ∧ Below w.heap.size w wr) (fun i _ => n - (intOf i).toNat)
    case atStart => exact ⟨0, _, _, Nat.zero_le _, by omega, rfl, rfl, by simp [used, sizes], HI2.out, HB2.out⟩
    case round =>
      obtain ⟨k, L, F, hk, hk40, rfl, hL, hU, hi, hb⟩ := hrel
      have HI := Lib.hid hi
      have HB := Lib.hid hb
      clear hi hb HI2 HB2
      by_cases hlt : k < n
      · by_cases h40 : (k : Int) < 40
        · obtain ⟨b, o, rfl, x1, x2, x3, x4, x5, sh, AX, nX, cX, _, c0, c1, c2, c3, c4, c5, c6⟩ := step8_cells HR.out HB.out hlt
          have K0 : Blk (wr.alloc (.cells #[.int .i64 x1, .int .i64 x2, .int .i64 x3, .int .i64 x4, .int .i64 x5, .bool sh, .slice AX nX cX] 31)) wr.heap.size 31 #[.int .i64 x1, .int .i64 x2, .int .i64 x3, .int .i64 x4, .int .i64 x5, .bool sh, .slice AX nX cX] := Blk.new _ _ _
          have HB3 := Lib.hid (HB.out.trans ((belowD ((Below.refl _ _).alloc (Nat.le_refl _) (.cells #[.int .i64 x1, .int .i64 x2, .int .i64 x3, .int .i64 x4, .int .i64 x5, .bool sh, .slice AX nX cX] 31))).mono HB.out.size))
          have HI3 : Hid (AtI (wr.alloc (.cells #[.int .i64 x1, .int .i64 x2, .int .i64 x3, .int .i64 x4, .int .i64 x5, .bool sh, .slice AX nX cX] 31)).drew w.heap.size p 4096 L F) := HI.out.below (belowD ((Below.refl _ _).alloc (Nat.le_refl _) _))
          obtain ⟨y1, hy1⟩ : ∃ y, x2 % 3 = y := ⟨_, rfl⟩
          have ly1 : 0 ≤ y1 := by omega
          have ry1 : y1 ≤ 2 := by omega
          have p1 : Hid (∀ w, Calls Try.prog 13 #[.int .i64 x2, .int .i64 3] w fun e w' => e = .returned (.int .i64 y1) ∧ w' = w) := fun w => (pickN x2 3 (by omega) (by omega) w).mono (fun _ _ ⟨h1, h2⟩ => ⟨by rw [h1, hy1], h2.symm⟩)
          obtain ⟨y2, hy2⟩ : ∃ y, x3 % 2 = y := ⟨_, rfl⟩
          have ly2 : 0 ≤ y2 := by omega
          have ry2 : y2 ≤ 1 := by omega
          have p2 : Hid (∀ w, Calls Try.prog 13 #[.int .i64 x3, .int .i64 2] w fun e w' => e = .returned (.int .i64 y2) ∧ w' = w) := fun w => (pickN x3 2 (by omega) (by omega) w).mono (fun _ _ ⟨h1, h2⟩ => ⟨by rw [h1, hy2], h2.symm⟩)
          obtain ⟨y3, hy3⟩ : ∃ y, x4 % 3 = y := ⟨_, rfl⟩
          have ly3 : 0 ≤ y3 := by omega
          have ry3 : y3 ≤ 2 := by omega
          have p3 : Hid (∀ w, Calls Try.prog 13 #[.int .i64 x4, .int .i64 3] w fun e w' => e = .returned (.int .i64 y3) ∧ w' = w) := fun w => (pickN x4 3 (by omega) (by omega) w).mono (fun _ _ ⟨h1, h2⟩ => ⟨by rw [h1, hy3], h2.symm⟩)
          obtain ⟨y4, hy4⟩ : ∃ y, x5 % 20 = y := ⟨_, rfl⟩
          have ly4 : 0 ≤ y4 := by omega
          have ry4 : y4 ≤ 19 := by omega
          have p4 : Hid (∀ w, Calls Try.prog 13 #[.int .i64 x5, .int .i64 20] w fun e w' => e = .returned (.int .i64 y4) ∧ w' = w) := fun w => (pickN x5 20 (by omega) (by omega) w).mono (fun _ _ ⟨h1, h2⟩ => ⟨by rw [h1, hy4], h2.symm⟩)
          obtain ⟨y5, hy5⟩ : ∃ y, x5 % 255 = y := ⟨_, rfl⟩
          have ly5 : 0 ≤ y5 := by omega
          have ry5 : y5 ≤ 254 := by omega
          have p5 : Hid (∀ w, Calls Try.prog 13 #[.int .i64 x5, .int .i64 255] w fun e w' => e = .returned (.int .i64 y5) ∧ w' = w) := fun w => (pickN x5 255 (by omega) (by omega) w).mono (fun _ _ ⟨h1, h2⟩ => ⟨by rw [h1, hy5], h2.symm⟩)
          have q1 : IntKind.i64.wrap (3 + y2) = 3 + y2 := IntWalk.i64_in _ (by omega)
          have q3 : IntKind.i64.wrap (1 + y5) = 1 + y5 := IntWalk.i64_in _ (by omega)
          have q4 : IntKind.u8.wrap (1 + y5) = 1 + y5 := IntWalk.u8_in _ (by omega)
          have q2 : IntKind.i64.wrap (1 + y4) = 1 + y4 := IntWalk.i64_in _ (by omega)
          have hgF : Hid (∀ k, F k → k < wr.heap.size) := fun k hk => (HI.out.lt hk).2
          have hfit : Hid (Fits 4096 L (3 + y2) y3 (1 + y4)) := ⟨by omega, by omega, by omega, by omega, by omega, by omega⟩
          clear hy1 hy2 hy3 hy4 hy5

          have kf : (wr.alloc (.cells #[.int .i64 x1, .int .i64 x2, .int .i64 x3, .int .i64 x4, .int .i64 x5, .bool sh, .slice AX nX cX] 31)).drew.cell? ⟨wr.heap.size, 1, none⟩ = some (.int .i64 x2) ∧ (wr.alloc (.cells #[.int .i64 x1, .int .i64 x2, .int .i64 x3, .int .i64 x4, .int .i64 x5, .bool sh, .slice AX nX cX] 31)).drew.cell? ⟨wr.heap.size, 2, none⟩ = some (.int .i64 x3) ∧ (wr.alloc (.cells #[.int .i64 x1, .int .i64 x2, .int .i64 x3, .int .i64 x4, .int .i64 x5, .bool sh, .slice AX nX cX] 31)).drew.cell? ⟨wr.heap.size, 3, none⟩ = some (.int .i64 x4) ∧ (wr.alloc (.cells #[.int .i64 x1, .int .i64 x2, .int .i64 x3, .int .i64 x4, .int .i64 x5, .bool sh, .slice AX nX cX] 31)).drew.cell? ⟨wr.heap.size, 4, none⟩ = some (.int .i64 x5) ∧ (wr.alloc (.cells #[.int .i64 x1, .int .i64 x2, .int .i64 x3, .int .i64 x4, .int .i64 x5, .bool sh, .slice AX nX cX] 31)).drew.cell? ⟨wr.heap.size, 5, none⟩ = some (.bool sh) := by rw [K0.drew.cell, K0.drew.cell, K0.drew.cell, K0.drew.cell, K0.drew.cell]; exact ⟨rfl, rfl, rfl, rfl, rfl⟩
          go_wp2_with fail
          go_region_held3 (fun w' => w'.cell? ⟨wr.heap.size, 1, none⟩ = some (.int .i64 x2) ∧ w'.cell? ⟨wr.heap.size, 2, none⟩ = some (.int .i64 x3) ∧ w'.cell? ⟨wr.heap.size, 3, none⟩ = some (.int .i64 x4) ∧ w'.cell? ⟨wr.heap.size, 4, none⟩ = some (.int .i64 x5) ∧ w'.cell? ⟨wr.heap.size, 5, none⟩ = some (.bool sh))
            (first | exact kf | exact kg)
            (first
              | (go_at_call 13; (first | (with_reducible refine (p1.out _).mono ?_) | (with_reducible refine (p2.out _).mono ?_) | (with_reducible refine (p3.out _).mono ?_) | (with_reducible refine (p4.out _).mono ?_)); rintro e w' ⟨rfl, rfl⟩)
              | (go_at_call 14; refine (allocI_yes _ w.heap.size p 4096 L F y1 (3 + y2) y3 (1 + y4) sh HI3.out hfit.out).mono ?_; rintro e w3 ⟨rfl, hi, hO⟩; have K2 := K0.drew.only hO (fun hf => by have := hgF.out _ hf; omega); have kg : w3.cell? ⟨wr.heap.size, 1, none⟩ = some (.int .i64 x2) ∧ w3.cell? ⟨wr.heap.size, 2, none⟩ = some (.int .i64 x3) ∧ w3.cell? ⟨wr.heap.size, 3, none⟩ = some (.int .i64 x4) ∧ w3.cell? ⟨wr.heap.size, 4, none⟩ = some (.int .i64 x5) ∧ w3.cell? ⟨wr.heap.size, 5, none⟩ = some (.bool sh) := (by rw [K2.cell, K2.cell, K2.cell, K2.cell, K2.cell]; exact ⟨rfl, rfl, rfl, rfl, rfl⟩)))
          have HI4 : Hid (AtI w3 w.heap.size p 4096 (L ++ [fresh y1 (3 + y2) y3 sh (1 + y4)]) (More F _ w3)) := Lib.hid hi
          have HB4 := Lib.hid (HB3.out.trans (hO.below HB3.out.size (fun _ hk => (HI3.out.lt hk).1)))
          clear hi hO K0 K2 kf kg c0 c1 c2 c3 c4 c5 c6
          go_wp2_with fail
          refine (p5.out _).mono ?_
          rintro e w' ⟨rfl, rfl⟩
          go_wp2_with fail
          have ha : (L ++ [fresh y1 (3 + y2) y3 sh (1 + y4)])[L.length]? = some (fresh y1 (3 + y2) y3 sh (1 + y4)) := by simp
          have hd : 0 < (fresh y1 (3 + y2) y3 sh (1 + y4)).data.length := by simp [fresh]; omega
          refine (put_yes _ w.heap.size p 4096 _ _ L.length 0 _ _ _ (1 + y5) HI4.out ha (by omega) (by rfl) hd (by omega)).mono ?_
          rintro e w4 ⟨rfl, hi, hO⟩
          have HI5 := Lib.hid hi
          have HB5 := Lib.hid (HB4.out.trans (hO.below HB4.out.size (fun _ hk => (HI4.out.lt hk).1)))
          have hU2 := used_set (b := (fresh y1 (3 + y2) y3 sh (1 + y4)).with' ((fresh y1 (3 + y2) y3 sh (1 + y4)).data.set 0 (1 + y5))) ha (.inr (by simp [Ar.with']))
          rw [used_push (by omega)] at hU2
          have hdl : (fresh y1 (3 + y2) y3 sh (1 + y4)).data.length = (1 + y4).toNat := by simp [fresh]
          rw [hdl] at hU2
          clear hi hO
          go_wp2_with fail
          go_roundw
          case rel => exact ⟨k + 1, _, _, by omega, by omega, by go_num, by simp; omega, by rw [hU2]; omega, HI5.out, HB5.out⟩
          case measure => simp [intOf]; omega
        · go_wp2_with fail
          go_meet
          exact ⟨k, L, F, hk40, hL, HI.out, HB.out⟩
      · have hkn : k = n := by omega
        subst hkn
        go_wp2_with fail
        go_meet
        exact ⟨k, L, F, hk40, hL, HI.out, HB.out⟩
  case rest =>
    obtain ⟨k, L, F, hk40, hL, hi, hb⟩ := hcut
    have HI0 : Hid (AtI (wc.alloc (.cells #[.int .u8 5] 5)) w.heap.size p 4096 L F) := hi.below ((Below.refl _ _).alloc (Nat.le_refl _) _)
    have HB0 := Lib.hid (hb.trans (((Below.refl _ wc).alloc (Nat.le_refl _) (.cells #[.int .u8 5] 5)).mono hb.size))
    clear hi hb HI2 HB2
    obtain ⟨a0, ha0⟩ : ∃ a, L[0]? = some a := ⟨_, List.getElem?_eq_getElem (by omega)⟩
    go_wp2_with fail
    refine (setbufI_yes _ w.heap.size p 4096 L F HI0.out 0 a0 _ _ [5] (by rfl) (by omega) ha0 (rd_5 _) (by decide)).mono ?_
    rintro e w3 ⟨rfl, hi, hO⟩
    have HI1 := Lib.hid hi
    have HB1 := Lib.hid (HB0.out.trans (hO.below HB0.out.size (fun _ hk => (HI0.out.lt hk).1)))
    clear hi hO
    obtain ⟨M, hM⟩ : ∃ M, M = L.set 0 (a0.with' [5]) := ⟨_, rfl⟩
    rw [← hM] at HI1
    have hM0 : M[0]? = some (a0.with' [5]) := by rw [hM]; exact List.getElem?_set_self (by omega)
    have hMl : M.length = k + 2 := by rw [hM]; simp [hL]
    clear hM ha0
    go_wp2_with fail
    refine (pickN life 2 (by omega) (by omega) w3).mono ?_
    rintro e w' ⟨rfl, rfl⟩
    obtain ⟨y6, hy6⟩ : ∃ y, life % 2 = y := ⟨_, rfl⟩
    have ly6 : 0 ≤ y6 := by omega
    have ry6 : y6 ≤ 1 := by omega
    have q6 : IntKind.i64.wrap (1 + y6) = 1 + y6 := IntWalk.i64_in _ (by omega)
    rw [hy6]
    clear hy6
    go_wp2_with fail
    refine (pickN owner 3 (by omega) (by omega) w3).mono ?_
    rintro e w' ⟨rfl, rfl⟩
    obtain ⟨y7, hy7⟩ : ∃ y, owner % 3 = y := ⟨_, rfl⟩
    have ly7 : 0 ≤ y7 := by omega
    have ry7 : y7 ≤ 2 := by omega
    rw [hy7]
    clear hy7
    go_wp2_with fail
    refine (copyI_c _ w.heap.size p 4096 M _ HI1.out).mono ?_
    rintro e w4 ⟨p', rfl, hc, hb4⟩
    have HI2 := Lib.hid (HI1.out.below hb4)
    have HC2 := Lib.hid hc
    have HB2 := Lib.hid (HB1.out.trans (hb4.mono HB1.out.size))
    clear hc hb4
    go_wp2_with fail
    refine (clearI_c _ w.heap.size p 4096 M _ (1 + y6) y7 HI2.out).mono ?_
    rintro e w5 ⟨rfl, hi, hO⟩
    have HI3 := Lib.hid hi
    have HC3 := Lib.hid (HC2.out.keep hO (fun k hk hf => by have := (HI1.out.lt hf).2; omega))
    have HB3 := Lib.hid (HB2.out.trans (hO.below HB2.out.size (fun _ hk => (HI2.out.lt hk).1)))
    clear hi hO HI2 HC2 HB2 HI1 HB1 HI0 HB0
    have hgood := HC3.out.good
    go_wp2_with fail
    go_loopw [15, 16] (fun s i wr => ∃ k : Nat, k ≤ M.length ∧ i = .int .i64 ((k : Int) + 1) ∧ s = .int .i64 (goneN (1 + y6) y7 (M.take k)) ∧ Below w5.heap.size w5 wr) (fun _ i _ => M.length + 1 - (intOf i).toNat)
    case atStart => exact ⟨0, by omega, by rfl, by rfl, Below.refl _ _⟩
    case round =>
      obtain ⟨k, hk, rfl, rfl, hb⟩ := hrel
      have HB := Lib.hid hb
      clear hb
      go_wp2_with fail
      refine (countI_c wr w.heap.size p 4096 _ _ (HI3.out.below HB.out)).mono ?_
      rintro e w' ⟨rfl, rfl⟩
      rw [List.length_map]
      by_cases hlt : k < M.length
      · obtain ⟨a, ha⟩ : ∃ a, M[k]? = some a := ⟨M[k], by simp [hlt]⟩
        go_wp2_with fail
        refine (arrayI_yes wr _ p' 4096 M _ (HC3.out.below HB.out) k a _ (by omega) ha).mono ?_
        rintro e w6 ⟨D, rfl, hd, hb⟩
        obtain ⟨AD, cD, rfl, _⟩ := hd.slice
        have KA0 : Blk (w6.alloc (.cells #[.int .i64 a.owner, .int .i64 a.label, .int .i64 a.life, .bool a.share, .slice AD a.data.length cD] 37)) w6.heap.size 37 #[.int .i64 a.owner, .int .i64 a.label, .int .i64 a.life, .bool a.share, .slice AD a.data.length cD] := Blk.new _ _ _
        have HB6 := Lib.hid ((HB.out.trans (hb.mono HB.out.size)).alloc (o := .cells #[.int .i64 a.owner, .int .i64 a.label, .int .i64 a.life, .bool a.share, .slice AD a.data.length cD] 37) (by have := HB.out.size; have := hb.size; omega))
        have hd6 : Dw 5 (w6.alloc (.cells #[.int .i64 a.owner, .int .i64 a.label, .int .i64 a.life, .bool a.share, .slice AD a.data.length cD] 37)) wr.heap.size (.slice AD a.data.length cD) a.data := hd.keep (S := fun _ => False) ((Only.refl _ _).alloc _) (fun _ _ h => h)
        clear hb hd
        go_wp2_with fail
        refine (arrayI_yes _ _ p 4096 _ _ (HI3.out.below HB6.out) k (clr1 (1 + y6) y7 a) _ (by omega) (by simp [ha])).mono ?_
        rintro e w7 ⟨D, he, hd7, hb7⟩
        rw [clr_owner, clr_label, clr_life, clr_share] at he
        have hzl := clr_len (1 + y6) y7 a
        have hz := clr_data (1 + y6) y7 a
        generalize (clr1 (1 + y6) y7 a).data = z at hd7 hzl hz
        obtain ⟨AE, cE, hDe, _⟩ := hd7.slice
        rw [hzl] at hDe
        subst hDe
        subst he
        have KB : Blk (w7.alloc (.cells #[.int .i64 a.owner, .int .i64 a.label, .int .i64 a.life, .bool a.share, .slice AE a.data.length cE] 37)) w7.heap.size 37 #[.int .i64 a.owner, .int .i64 a.label, .int .i64 a.life, .bool a.share, .slice AE a.data.length cE] := Blk.new _ _ _
        have KA : Blk (w7.alloc (.cells #[.int .i64 a.owner, .int .i64 a.label, .int .i64 a.life, .bool a.share, .slice AE a.data.length cE] 37)) w6.heap.size 37 #[.int .i64 a.owner, .int .i64 a.label, .int .i64 a.life, .bool a.share, .slice AD a.data.length cD] := (KA0.only (S := fun _ => False) (Only.of_below hb7) id).alloc _
        have hd8 : Dw 5 (w7.alloc (.cells #[.int .i64 a.owner, .int .i64 a.label, .int .i64 a.life, .bool a.share, .slice AE a.data.length cE] 37)) wr.heap.size (.slice AD a.data.length cD) a.data := (hd6.keep (S := fun _ => False) (Only.of_below hb7) (fun _ _ h => h)).keep (S := fun _ => False) ((Only.refl _ _).alloc _) (fun _ _ h => h)
        have hd9 : Dw 5 (w7.alloc (.cells #[.int .i64 a.owner, .int .i64 a.label, .int .i64 a.life, .bool a.share, .slice AE a.data.length cE] 37)) (w6.alloc (.cells #[.int .i64 a.owner, .int .i64 a.label, .int .i64 a.life, .bool a.share, .slice AD a.data.length cD] 37)).heap.size (.slice AE a.data.length cE) z := hd7.keep (S := fun _ => False) ((Only.refl _ _).alloc _) (fun _ _ h => h)
        have HB8 := Lib.hid ((HB6.out.trans (hb7.mono HB6.out.size)).alloc (o := .cells #[.int .i64 a.owner, .int .i64 a.label, .int .i64 a.life, .bool a.share, .slice AE a.data.length cE] 37) (by have := HB6.out.size; have := hb7.size; omega))
        have a0 := KA.cell 0
        have a1 := KA.cell 1
        have a2 := KA.cell 2
        have a4 := KA.cell 4
        have b0 := KB.cell 0
        have b1 := KB.cell 1
        have b2 := KB.cell 2
        have b4 := KB.cell 4
        simp at a0 a1 a2 a4 b0 b1 b2 b4
        have HD8 := Lib.hid hd8
        have HD9 := Lib.hid hd9
        have HKA := Lib.hid KA
        have HKB := Lib.hid KB
        clear hd6 hd7 hb7 hd8 hd9 KA0 KA KB HB6
        have h64 : a.data.length ≤ 64 := hgood.data a (List.mem_of_getElem? ha)
        have hlf := hgood.life a (List.mem_of_getElem? ha)
        have hbf : k < 2 → a.life = 0 := fun h => hgood.bufs k a h ha
        go_upto_region 25 with (fail)
        generalize (w7.alloc (.cells #[.int .i64 a.owner, .int .i64 a.label, .int .i64 a.life, .bool a.share, .slice AE a.data.length cE] 37)) = W at *
        go_cut [21] (fun s wx => s = .bool (goneB (1 + y6) y7 a) ∧ W = wx)
        case first =>
          by_cases h2 : (k : Int) + 1 > 2
          · rcases (show y6 = 0 ∨ y6 = 1 by omega) with rfl | rfl
            · by_cases h3 : a.life > 0
              all_goals
                go_wp2_with fail
                go_meet
                exact ⟨congrArg Value.bool (by simp [goneB]; omega), rfl⟩
            · by_cases h3 : a.life = 2
              · by_cases h4 : a.owner = y7
                all_goals
                  go_wp2_with fail
                  go_meet
                  exact ⟨congrArg Value.bool (by simp [goneB, h3, h4]), rfl⟩
              · go_wp2_with fail
                go_meet
                exact ⟨congrArg Value.bool (by simp [goneB, h3]), rfl⟩
          · have := hbf (by omega)
            go_wp2_with fail
            go_meet
            exact ⟨congrArg Value.bool (by simp [goneB, this]), rfl⟩
        case rest =>
          obtain ⟨rfl, rfl⟩ := hcut
          have hsucc := goneN_succ (life := 1 + y6) (owner := y7) ha
          have hnle := goneN_le (1 + y6) y7 M k
          have hlt2 : k < M.length := (List.getElem?_eq_some_iff.mp ha).1
          have hw1 : IntKind.i64.wrap (goneN (1 + y6) y7 (M.take k) + 1) = goneN (1 + y6) y7 (M.take k) + 1 := IntWalk.i64_in _ (by omega)
          clear hlf hbf
          generalize hgb : goneB (1 + y6) y7 a = gb at *
          cases gb
          · go_wp2_with fail
            go_loopw [22] (fun i wi => ∃ j : Nat, j ≤ a.data.length ∧ i = .int .i64 j ∧ Below W.heap.size W wi) (fun i _ => a.data.length - (intOf i).toNat)
            case atStart => exact ⟨0, Nat.zero_le _, rfl, Below.refl _ _⟩
            case round =>
              obtain ⟨j, hj, rfl, hbi⟩ := hrel
              have HBI := Lib.hid hbi
              have HKB2 : Blk wr w7.heap.size 37 _ := HKB.out.only (S := fun _ => False) (Only.of_below hbi) id
              have HKA2 : Blk wr w6.heap.size 37 _ := HKA.out.only (S := fun _ => False) (Only.of_below hbi) id
              have hA := HD8.out.keep (S := fun _ => False) (Only.of_below hbi) (fun _ _ h => h)
              have hE := HD9.out.keep (S := fun _ => False) (Only.of_below hbi) (fun _ _ h => h)
              clear hbi
              have b4' := HKB2.cell 4
              have a4' := HKA2.cell 4
              simp at b4' a4'
              by_cases hjl : j < a.data.length
              · obtain ⟨gA, hAe, hcA, _⟩ := Dw.get hA rfl hjl
                obtain ⟨gE, hEe, hcE, _⟩ := Dw.get hE rfl hjl
                rw [hz.2 trivial] at hcE
                rw [hAe] at a4'
                rw [hEe] at b4'
                have g1 : ∀ d os, (grow (redrawn wr d) os).cell? ⟨w6.heap.size, 4, none⟩ = some (.slice (some ⟨gA, 0, none⟩) a.data.length cD) := fun d os => cell_regrown a4' d os
                have g2 : ∀ d os, (grow (redrawn wr d) os).cell? ⟨w7.heap.size, 4, none⟩ = some (.slice (some ⟨gE, 0, none⟩) a.data.length cE) := fun d os => cell_regrown b4' d os
                have g3 : ∀ d os, (grow (redrawn wr d) os).cell? ⟨gA, j, none⟩ = some (.int .u8 (a.data.getD j 0)) := fun d os => cell_regrown hcA d os
                have g4 : ∀ d os, (grow (redrawn wr d) os).cell? ⟨gE, j, none⟩ = some (.int .u8 (a.data.getD j 0)) := fun d os => cell_regrown hcE d os
                clear hA hE HKB2 HKA2 hcA hcE hAe hEe
                generalize a.data.getD j 0 = va at *
                go_wp2_with fail
                refine wp_region_quiet_below (by kernel_rfl) (by kernel_rfl) ?_
                repeat (go_big_quiet_step (fail))
                refine wpQuiet_nil ?_
                intro wq hwq
                have hbq : Below wr.heap.size wr wq := by obtain ⟨pr, rfl⟩ := hwq; exact below_regrown _ _ _
                have HBQ := Lib.hid (HBI.out.trans (hbq.mono HBI.out.size))
                clear hwq hbq g1 g2 g3 g4
                go_wp2_with fail
                go_roundw
                case rel => exact ⟨j + 1, by omega, by go_num, HBQ.out⟩
                case measure => simp [intOf]; omega
              · have hje : j = a.data.length := by omega
                subst hje
                clear hA hE HKB2 HKA2
                go_wp2_with fail
                go_roundw
                case rel => exact ⟨k + 1, by omega, by go_num, by rw [hsucc]; simp, HB8.out.trans (HBI.out.mono HB8.out.size)⟩
                case measure => simp [intOf]; omega
          · go_wp2_with fail
            go_loopw [22] (fun i wr => ∃ j : Nat, j ≤ a.data.length ∧ i = .int .i64 j ∧ Below W.heap.size W wr) (fun i _ => a.data.length - (intOf i).toNat)
            case atStart => exact ⟨0, Nat.zero_le _, rfl, Below.refl _ _⟩
            case round =>
              obtain ⟨j, hj, rfl, hbi⟩ := hrel
              have HBI := Lib.hid hbi
              have HKB2 : Blk wr w7.heap.size 37 _ := HKB.out.only (S := fun _ => False) (Only.of_below hbi) id
              have HKA2 : Blk wr w6.heap.size 37 _ := HKA.out.only (S := fun _ => False) (Only.of_below hbi) id
              have hA := HD8.out.keep (S := fun _ => False) (Only.of_below hbi) (fun _ _ h => h)
              have hE := HD9.out.keep (S := fun _ => False) (Only.of_below hbi) (fun _ _ h => h)
              clear hbi
              have b4' := HKB2.cell 4
              have a4' := HKA2.cell 4
              simp at b4' a4'
              by_cases hjl : j < a.data.length
              · obtain ⟨gA, hAe, hcA, _⟩ := Dw.get hA rfl hjl
                obtain ⟨gE, hEe, hcE, _⟩ := Dw.get hE rfl hjl
                rw [hz.1 trivial j] at hcE
                rw [hAe] at a4'
                rw [hEe] at b4'
                have g1 : ∀ d os, (grow (redrawn wr d) os).cell? ⟨w6.heap.size, 4, none⟩ = some (.slice (some ⟨gA, 0, none⟩) a.data.length cD) := fun d os => cell_regrown a4' d os
                have g2 : ∀ d os, (grow (redrawn wr d) os).cell? ⟨w7.heap.size, 4, none⟩ = some (.slice (some ⟨gE, 0, none⟩) a.data.length cE) := fun d os => cell_regrown b4' d os
                have g3 : ∀ d os, (grow (redrawn wr d) os).cell? ⟨gA, j, none⟩ = some (.int .u8 (a.data.getD j 0)) := fun d os => cell_regrown hcA d os
                have g4 : ∀ d os, (grow (redrawn wr d) os).cell? ⟨gE, j, none⟩ = some (.int .u8 (0)) := fun d os => cell_regrown hcE d os
                clear hA hE HKB2 HKA2 hcA hcE hAe hEe
                generalize a.data.getD j 0 = va at *
                go_wp2_with fail
                refine wp_region_quiet_below (by kernel_rfl) (by kernel_rfl) ?_
                repeat (go_big_quiet_step (fail))
                refine wpQuiet_nil ?_
                intro wq hwq
                have hbq : Below wr.heap.size wr wq := by obtain ⟨pr, rfl⟩ := hwq; exact below_regrown _ _ _
                have HBQ := Lib.hid (HBI.out.trans (hbq.mono HBI.out.size))
                clear hwq hbq g1 g2 g3 g4
                go_wp2_with fail
                go_roundw
                case rel => exact ⟨j + 1, by omega, by go_num, HBQ.out⟩
                case measure => simp [intOf]; omega
              · have hje : j = a.data.length := by omega
                subst hje
                clear hA hE HKB2 HKA2
                go_wp2_with fail
                go_roundw
                case rel => exact ⟨k + 1, by omega, by go_num, by rw [hsucc]; simp, HB8.out.trans (HBI.out.mono HB8.out.size)⟩
                case measure => simp [intOf]; omega
      · have hke : k = M.length := by omega
        subst hke
        rw [List.take_length]
        go_wp2_with fail
        refine (getI_yes wr w.heap.size p 4096 _ _ (HI3.out.below HB.out) 0 0 (clr1 (1 + y6) y7 (a0.with' [5])) _ _ (by rfl) (by simp [hM0]) (by rfl) (by rw [clr_len]; exact Nat.one_pos)).mono ?_
        rintro e w' ⟨he, rfl⟩
        rw [(clr_data (1 + y6) y7 (a0.with' [5])).2 (by have := hgood.bufs 0 _ (by omega) hM0; simp [goneB, this])] at he
        have he : e = .returned (.tuple #[.int .u8 5, .bool true]) := he
        subst he
        go_wp2_with fail
        go_ret
        exact ⟨rfl, HB3.out.trans (HB.out.mono HB3.out.size)⟩
theorem heapForgets_top (v0 v1 v2 : Value) (w : World) (u0 : Vw.Arg Try.prog w 22 v0) (u1 : Vw.Arg Try.prog w 3 v1) (u2 : Vw.Arg Try.prog w 3 v2) :
    Calls Try.prog 6 #[v0, v1, v2] w fun e w' => e = .returned (.bool true) ∧ Below w.heap.size w w' := by
  obtain ⟨A, n, c, rfl, _, _, _, hr⟩ := u0.rows Try.underlying22 cells_step8 (by omega)
  obtain ⟨x1, rfl, _⟩ := u1.int Try.underlying3
  obtain ⟨x2, rfl, _⟩ := u2.int Try.underlying3
  exact heapForgets_walk A n c x1 x2 w hr
end Go.Proofs.Ytjmpnkhgligdlaa
