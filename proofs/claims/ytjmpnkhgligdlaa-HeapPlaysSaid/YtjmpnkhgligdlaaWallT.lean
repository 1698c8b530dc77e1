/- The walk of WallTells. -/
import Derived.Test.YtjmpnkhgligdlaaWalls
namespace Go.Proofs.Ytjmpnkhgligdlaa
open Go.RowKit On Hv Go.Sort
theorem cells_arr : Try.prog.cellsOf 37 = 5 := by kernel_rfl
theorem cells_bytes : Try.prog.cellsOf 29 = 1 := by kernel_rfl
theorem viewed_arr {w : World} {es : List Value} (h : Vw.Viewed Try.prog w 37 es) :
    ∃ (x1 x2 x3 : Int) (b : Bool) (A : Option Addr) (n c : Nat), es = [.int .i64 x1, .int .i64 x2, .int .i64 x3, .bool b, .slice A n c] := by
  obtain ⟨hl, hf⟩ := Vw.viewed_struct Try.underlying37 h
  rw [cells_arr] at hl
  have f0 : Vw.Viewed Try.prog w 3 ((es.drop 0).take (Try.prog.cellsOf 3)) := hf 0 _ rfl
  have f1 : Vw.Viewed Try.prog w 3 ((es.drop 1).take (Try.prog.cellsOf 3)) := hf 1 _ rfl
  have f2 : Vw.Viewed Try.prog w 3 ((es.drop 2).take (Try.prog.cellsOf 3)) := hf 2 _ rfl
  have f3 : Vw.Viewed Try.prog w 4 ((es.drop 3).take (Try.prog.cellsOf 4)) := hf 3 _ rfl
  have f4 : Vw.Viewed Try.prog w 29 ((es.drop 4).take (Try.prog.cellsOf 29)) := hf 4 _ rfl
  rw [cells_int] at f0 f1 f2
  rw [cells_bool] at f3
  rw [cells_bytes] at f4
  obtain ⟨n0, e0, _⟩ := Vw.viewed_int Try.underlying3 f0
  obtain ⟨n1, e1, _⟩ := Vw.viewed_int Try.underlying3 f1
  obtain ⟨n2, e2, _⟩ := Vw.viewed_int Try.underlying3 f2
  obtain ⟨b, e3⟩ := Vw.viewed_bool Try.underlying4 f3
  rcases Vw.viewed_slice Try.underlying29 f4 with e4 | ⟨a, len, cap, e4, _⟩
  all_goals
    match es, hl with
    | [a, b', c', d, e], _ =>
      simp at e0 e1 e2 e3 e4
      subst e0; subst e1; subst e2; subst e3; subst e4
      exact ⟨_, _, _, _, _, _, _, rfl⟩
def ArrV (v : Value) : Prop := ∃ (x1 x2 x3 : Int) (b : Bool) (A : Option Addr) (n c : Nat), v = .agg #[.int .i64 x1, .int .i64 x2, .int .i64 x3, .bool b, .slice A n c]
theorem Two.lens {w0 w : World} {p p' : Nat} {sz : Int} {L L' : List Ar} {F G : Nat → Prop} (h : Two w0 p p' sz L L' F G w) : ∃ A c, w.cell? ⟨p', 1, none⟩ = some (.slice A L'.length c) := by
  obtain ⟨q, c, R, h1, _⟩ := h.r.open
  have := h1.blk.cell 1
  exact ⟨_, c, by simpa using this⟩
set_option maxHeartbeats 4000000 in
set_option maxRecDepth 100000 in
theorem wallTells_walk (A : Option Addr) (n c : Nat) (ref at_ m applet : Int) (near : Bool) (x1 x2 x3 : Int) (sh : Bool) (AD : Option Addr) (nD cD : Nat) (w : World) (hr : Vw.RowsOf w A n 5 (Vw.Viewed Try.prog w 74)) :
    Calls Try.prog 8 #[.slice A n c, .int .i64 ref, .int .i64 at_, .int .i64 m, .int .i64 applet, .bool near, .agg #[.int .i64 x1, .int .i64 x2, .int .i64 x3, .bool sh, .slice AD nD cD]] w fun e w' => e = .returned (.bool true) ∧ Below w.heap.size w w' := by
  have n1 := eql_heap
  have hr2 : Vw.RowsOf (w.alloc (.cells #[.int .i64 x1, .int .i64 x2, .int .i64 x3, .bool sh, .slice AD nD cD] 37)) A n 5 (fun es => Vw.Viewed Try.prog w 74 es) :=
    ⟨hr.none_, fun b o s i hA hi => by
      obtain ⟨h1, h2, es, h3, h4, h5⟩ := hr.cell b o s i hA hi
      refine ⟨h1, by simp; omega, es, h3, h4, fun j hj => ?_⟩
      rw [World.cell?_alloc_lt w (a := ⟨b, o + i * 5 + j, none⟩) _ h2]; exact h5 j hj⟩
  have HR := Lib.hid hr2
  have K0 : Blk (w.alloc (.cells #[.int .i64 x1, .int .i64 x2, .int .i64 x3, .bool sh, .slice AD nD cD] 37)) w.heap.size 37 #[.int .i64 x1, .int .i64 x2, .int .i64 x3, .bool sh, .slice AD nD cD] := Blk.new _ _ _
  have HB0 : Hid (Below w.heap.size w (w.alloc (.cells #[.int .i64 x1, .int .i64 x2, .int .i64 x3, .bool sh, .slice AD nD cD] 37))) := (Below.refl _ _).alloc (Nat.le_refl _) _
  have HK := Lib.hid K0
  clear hr hr2 K0
  cases near
  · go_enter Try.func8, Try.ntmps8
    go_wp2_with fail
    refine (both_c A n c _ _ (fun es h => viewed_step9 h) HR.out).mono ?_
    rintro e w1 ⟨p, p', L, F, G, rfl, ht⟩
    have HB1 : Hid (Below w.heap.size w w1) := HB0.out.trans (ht.below.mono (by simp))
    have HK1 : Hid (Blk w1 w.heap.size 37 #[.int .i64 x1, .int .i64 x2, .int .i64 x3, .bool sh, .slice AD nD cD]) := HK.out.only (S := fun _ => False) (Only.of_below ht.below) id
    have HT := Lib.hid ht
    clear ht
    go_wp2_with fail
    refine (known9_c w1).mono ?_
    rintro e w2 ⟨rfl, hb⟩
    have HT2 := Lib.hid (HT.out.keep hb)
    have HB2 := Lib.hid (HB1.out.trans (hb.mono HB1.out.size))
    have HK2 : Hid (Blk w2 w.heap.size 37 #[.int .i64 x1, .int .i64 x2, .int .i64 x3, .bool sh, .slice AD nD cD]) := HK1.out.only (S := fun _ => False) (Only.of_below hb) id
    clear hb HT HB1 HK1
    have cC : Hid (∀ d os, Calls Try.prog 32 #[.pointer (some ⟨p, 0, none⟩), .int .i64 ref, .int .i64 applet] (grow (redrawn w2 d) os) fun e w'' => e = .returned (.int .i64 (checkS L ref applet)) ∧ ∃ p : Regrown, w'' = grow (redrawn w2 p.d) p.os) := fun d os => Calls.regrown_of (check_c _ _ p 1000 L F ref applet (HT2.out.i.below (below_regrown w2 d os)))
    have cD' : Hid (∀ d os, Calls Try.prog 36 #[.pointer (some ⟨p', 0, none⟩), .int .i64 ref, .int .i64 applet] (grow (redrawn w2 d) os) fun e w'' => e = .returned (.int .i64 (checkS L ref applet)) ∧ ∃ p : Regrown, w'' = grow (redrawn w2 p.d) p.os) := fun d os => Calls.regrown_of (checkR_c _ _ p' 1000 L G ref applet (HT2.out.r.below (below_regrown w2 d os)))
    have cR : Hid (∀ d os, Calls Try.prog 33 #[.pointer (some ⟨p, 0, none⟩), .int .i64 ref, .int .i64 at_, .int .i64 m, .int .i64 applet] (grow (redrawn w2 d) os) fun e w'' => e = .returned (.int .i64 (rangeS L ref at_ m applet)) ∧ ∃ p : Regrown, w'' = grow (redrawn w2 p.d) p.os) := fun d os => Calls.regrown_of (range_c _ _ p 1000 L F ref at_ m applet (HT2.out.i.below (below_regrown w2 d os)))
    have cS : Hid (∀ d os, Calls Try.prog 37 #[.pointer (some ⟨p', 0, none⟩), .int .i64 ref, .int .i64 at_, .int .i64 m, .int .i64 applet] (grow (redrawn w2 d) os) fun e w'' => e = .returned (.int .i64 (rangeS L ref at_ m applet)) ∧ ∃ p : Regrown, w'' = grow (redrawn w2 p.d) p.os) := fun d os => Calls.regrown_of (rangeR_c _ _ p' 1000 L G ref at_ m applet (HT2.out.r.below (below_regrown w2 d os)))
    have cM : Hid (∀ d os, Calls Try.prog 34 #[.agg #[.int .i64 x1, .int .i64 x2, .int .i64 x3, .bool sh, .slice AD nD cD], .int .i64 applet] (grow (redrawn w2 d) os) fun e w'' => e = .returned (.bool (mayB x1 applet sh)) ∧ ∃ p : Regrown, w'' = grow (redrawn w2 p.d) p.os) := fun d os => Calls.regrown_of (may_c x1 x2 x3 applet sh AD nD cD _)
    have cN : Hid (∀ d os, Calls Try.prog 38 #[.agg #[.int .i64 x1, .int .i64 x2, .int .i64 x3, .bool sh, .slice AD nD cD], .int .i64 applet] (grow (redrawn w2 d) os) fun e w'' => e = .returned (.bool (mayB x1 applet sh)) ∧ ∃ p : Regrown, w'' = grow (redrawn w2 p.d) p.os) := fun d os => Calls.regrown_of (mayR_c x1 x2 x3 applet sh AD nD cD _)
    have g0 : ∀ d os, (grow (redrawn w2 d) os).cell? ⟨w.heap.size, 0, none⟩ = some (.int .i64 x1) := fun d os => cell_regrown (by rw [HK2.out.cell]; rfl) d os
    have g1 : ∀ d os, (grow (redrawn w2 d) os).cell? ⟨w.heap.size, 1, none⟩ = some (.int .i64 x2) := fun d os => cell_regrown (by rw [HK2.out.cell]; rfl) d os
    have g2 : ∀ d os, (grow (redrawn w2 d) os).cell? ⟨w.heap.size, 2, none⟩ = some (.int .i64 x3) := fun d os => cell_regrown (by rw [HK2.out.cell]; rfl) d os
    have g3 : ∀ d os, (grow (redrawn w2 d) os).cell? ⟨w.heap.size, 3, none⟩ = some (.bool sh) := fun d os => cell_regrown (by rw [HK2.out.cell]; rfl) d os
    have g4 : ∀ d os, (grow (redrawn w2 d) os).cell? ⟨w.heap.size, 4, none⟩ = some (.slice AD nD cD) := fun d os => cell_regrown (by rw [HK2.out.cell]; rfl) d os
    generalize checkS L ref applet = SC at cC cD'
    generalize rangeS L ref at_ m applet = SR at cR cS
    generalize mayB x1 applet sh = SM at cM cN
    go_wp2_with fail
    refine wp_region_quiet_below (by kernel_rfl) (by kernel_rfl) ?_
    repeat (go_big_quiet_step (first | (with_reducible exact cC.out _ _) | (with_reducible exact cD'.out _ _) | (with_reducible exact cR.out _ _) | (with_reducible exact cS.out _ _) | (with_reducible exact cM.out _ _) | (with_reducible exact cN.out _ _)))
    refine wpQuiet_nil ?_
    intro w3 hw3
    have hb3 : Below w2.heap.size w2 w3 := by obtain ⟨pr, rfl⟩ := hw3; exact below_regrown _ _ _
    have HB3 := Lib.hid (HB2.out.trans (hb3.mono HB2.out.size))
    clear hw3 hb3 g0 g1 g2 g3 g4
    go_wp2_with fail
    go_ret
    exact ⟨rfl, HB3.out⟩
  · go_enter Try.func8, Try.ntmps8
    go_wp2_with fail
    refine (both_c A n c _ _ (fun es h => viewed_step9 h) HR.out).mono ?_
    rintro e w1 ⟨p, p', L, F, G, rfl, ht⟩
    have HB1 : Hid (Below w.heap.size w w1) := HB0.out.trans (ht.below.mono (by simp))
    have HK1 : Hid (Blk w1 w.heap.size 37 #[.int .i64 x1, .int .i64 x2, .int .i64 x3, .bool sh, .slice AD nD cD]) := HK.out.only (S := fun _ => False) (Only.of_below ht.below) id
    have HT := Lib.hid ht
    clear ht
    go_wp2_with fail
    refine (known9_c w1).mono ?_
    rintro e w2 ⟨rfl, hb⟩
    have HT2 := Lib.hid (HT.out.keep hb)
    have HB2 := Lib.hid (HB1.out.trans (hb.mono HB1.out.size))
    have HK2 : Hid (Blk w2 w.heap.size 37 #[.int .i64 x1, .int .i64 x2, .int .i64 x3, .bool sh, .slice AD nD cD]) := HK1.out.only (S := fun _ => False) (Only.of_below hb) id
    clear hb HT HB1 HK1
    obtain ⟨AL, cL, hl⟩ := HT2.out.lens
    have hlen := HT2.out.r.good.len
    have hllo : 0 ≤ (L.length : Int) := by omega
    have hlhi : (L.length : Int) ≤ 514 := by omega
    go_wp2_with fail
    refine (pickN ref ((L.length : Int) + 3) (by omega) (by omega) w2).mono ?_
    rintro e w' ⟨rfl, rfl⟩
    obtain ⟨y1, hy1⟩ : ∃ y, ref % ((L.length : Int) + 3) = y := ⟨_, rfl⟩
    have ly1 : 0 ≤ y1 := by rw [← hy1]; exact Int.emod_nonneg _ (by omega)
    have ry1 : y1 < (L.length : Int) + 3 := by rw [← hy1]; exact Int.emod_lt_of_pos _ (by omega)
    rw [hy1]
    clear hy1
    go_wp2_with fail
    refine (pickN at_ (12) (by omega) (by omega) w2).mono ?_
    rintro e w' ⟨rfl, rfl⟩
    obtain ⟨y2, hy2⟩ : ∃ y, at_ % (12) = y := ⟨_, rfl⟩
    have ly2 : 0 ≤ y2 := by rw [← hy2]; exact Int.emod_nonneg _ (by omega)
    have ry2 : y2 < 12 := by rw [← hy2]; exact Int.emod_lt_of_pos _ (by omega)
    rw [hy2]
    clear hy2
    go_wp2_with fail
    refine (pickN m (12) (by omega) (by omega) w2).mono ?_
    rintro e w' ⟨rfl, rfl⟩
    obtain ⟨y3, hy3⟩ : ∃ y, m % (12) = y := ⟨_, rfl⟩
    have ly3 : 0 ≤ y3 := by rw [← hy3]; exact Int.emod_nonneg _ (by omega)
    have ry3 : y3 < 12 := by rw [← hy3]; exact Int.emod_lt_of_pos _ (by omega)
    rw [hy3]
    clear hy3
    go_wp2_with fail
    refine (pickN applet (4) (by omega) (by omega) w2).mono ?_
    rintro e w' ⟨rfl, rfl⟩
    obtain ⟨y4, hy4⟩ : ∃ y, applet % (4) = y := ⟨_, rfl⟩
    have ly4 : 0 ≤ y4 := by rw [← hy4]; exact Int.emod_nonneg _ (by omega)
    have ry4 : y4 < 4 := by rw [← hy4]; exact Int.emod_lt_of_pos _ (by omega)
    rw [hy4]
    clear hy4
    have cC : Hid (∀ d os, Calls Try.prog 32 #[.pointer (some ⟨p, 0, none⟩), .int .i64 (y1 - 1), .int .i64 y4] (grow (redrawn w2 d) os) fun e w'' => e = .returned (.int .i64 (checkS L (y1 - 1) y4)) ∧ ∃ p : Regrown, w'' = grow (redrawn w2 p.d) p.os) := fun d os => Calls.regrown_of (check_c _ _ p 1000 L F (y1 - 1) y4 (HT2.out.i.below (below_regrown w2 d os)))
    have cD' : Hid (∀ d os, Calls Try.prog 36 #[.pointer (some ⟨p', 0, none⟩), .int .i64 (y1 - 1), .int .i64 y4] (grow (redrawn w2 d) os) fun e w'' => e = .returned (.int .i64 (checkS L (y1 - 1) y4)) ∧ ∃ p : Regrown, w'' = grow (redrawn w2 p.d) p.os) := fun d os => Calls.regrown_of (checkR_c _ _ p' 1000 L G (y1 - 1) y4 (HT2.out.r.below (below_regrown w2 d os)))
    have cR : Hid (∀ d os, Calls Try.prog 33 #[.pointer (some ⟨p, 0, none⟩), .int .i64 (y1 - 1), .int .i64 (y2 - 1), .int .i64 (y3 - 1), .int .i64 y4] (grow (redrawn w2 d) os) fun e w'' => e = .returned (.int .i64 (rangeS L (y1 - 1) (y2 - 1) (y3 - 1) y4)) ∧ ∃ p : Regrown, w'' = grow (redrawn w2 p.d) p.os) := fun d os => Calls.regrown_of (range_c _ _ p 1000 L F (y1 - 1) (y2 - 1) (y3 - 1) y4 (HT2.out.i.below (below_regrown w2 d os)))
    have cS : Hid (∀ d os, Calls Try.prog 37 #[.pointer (some ⟨p', 0, none⟩), .int .i64 (y1 - 1), .int .i64 (y2 - 1), .int .i64 (y3 - 1), .int .i64 y4] (grow (redrawn w2 d) os) fun e w'' => e = .returned (.int .i64 (rangeS L (y1 - 1) (y2 - 1) (y3 - 1) y4)) ∧ ∃ p : Regrown, w'' = grow (redrawn w2 p.d) p.os) := fun d os => Calls.regrown_of (rangeR_c _ _ p' 1000 L G (y1 - 1) (y2 - 1) (y3 - 1) y4 (HT2.out.r.below (below_regrown w2 d os)))
    have cM : Hid (∀ d os, Calls Try.prog 34 #[.agg #[.int .i64 x1, .int .i64 x2, .int .i64 x3, .bool sh, .slice AD nD cD], .int .i64 y4] (grow (redrawn w2 d) os) fun e w'' => e = .returned (.bool (mayB x1 y4 sh)) ∧ ∃ p : Regrown, w'' = grow (redrawn w2 p.d) p.os) := fun d os => Calls.regrown_of (may_c x1 x2 x3 y4 sh AD nD cD _)
    have cN : Hid (∀ d os, Calls Try.prog 38 #[.agg #[.int .i64 x1, .int .i64 x2, .int .i64 x3, .bool sh, .slice AD nD cD], .int .i64 y4] (grow (redrawn w2 d) os) fun e w'' => e = .returned (.bool (mayB x1 y4 sh)) ∧ ∃ p : Regrown, w'' = grow (redrawn w2 p.d) p.os) := fun d os => Calls.regrown_of (mayR_c x1 x2 x3 y4 sh AD nD cD _)
    have g0 : ∀ d os, (grow (redrawn w2 d) os).cell? ⟨w.heap.size, 0, none⟩ = some (.int .i64 x1) := fun d os => cell_regrown (by rw [HK2.out.cell]; rfl) d os
    have g1 : ∀ d os, (grow (redrawn w2 d) os).cell? ⟨w.heap.size, 1, none⟩ = some (.int .i64 x2) := fun d os => cell_regrown (by rw [HK2.out.cell]; rfl) d os
    have g2 : ∀ d os, (grow (redrawn w2 d) os).cell? ⟨w.heap.size, 2, none⟩ = some (.int .i64 x3) := fun d os => cell_regrown (by rw [HK2.out.cell]; rfl) d os
    have g3 : ∀ d os, (grow (redrawn w2 d) os).cell? ⟨w.heap.size, 3, none⟩ = some (.bool sh) := fun d os => cell_regrown (by rw [HK2.out.cell]; rfl) d os
    have g4 : ∀ d os, (grow (redrawn w2 d) os).cell? ⟨w.heap.size, 4, none⟩ = some (.slice AD nD cD) := fun d os => cell_regrown (by rw [HK2.out.cell]; rfl) d os
    generalize checkS L (y1 - 1) y4 = SC at cC cD'
    generalize rangeS L (y1 - 1) (y2 - 1) (y3 - 1) y4 = SR at cR cS
    generalize mayB x1 y4 sh = SM at cM cN
    go_wp2_with fail
    refine wp_region_quiet_below (by kernel_rfl) (by kernel_rfl) ?_
    repeat (go_big_quiet_step (first | (with_reducible exact cC.out _ _) | (with_reducible exact cD'.out _ _) | (with_reducible exact cR.out _ _) | (with_reducible exact cS.out _ _) | (with_reducible exact cM.out _ _) | (with_reducible exact cN.out _ _)))
    refine wpQuiet_nil ?_
    intro w3 hw3
    have hb3 : Below w2.heap.size w2 w3 := by obtain ⟨pr, rfl⟩ := hw3; exact below_regrown _ _ _
    have HB3 := Lib.hid (HB2.out.trans (hb3.mono HB2.out.size))
    clear hw3 hb3 g0 g1 g2 g3 g4
    go_wp2_with fail
    go_ret
    exact ⟨rfl, HB3.out⟩
theorem wallTells_top (v0 v1 v2 v3 v4 v5 v6 : Value) (w : World) (u0 : Vw.Arg Try.prog w 59 v0) (u1 : Vw.Arg Try.prog w 3 v1) (u2 : Vw.Arg Try.prog w 3 v2) (u3 : Vw.Arg Try.prog w 3 v3) (u4 : Vw.Arg Try.prog w 3 v4) (u5 : Vw.Arg Try.prog w 4 v5) (u6 : Vw.Arg Try.prog w 37 v6) :
    Calls Try.prog 8 #[v0, v1, v2, v3, v4, v5, v6] w fun e w' => e = .returned (.bool true) ∧ Below w.heap.size w w' := by
  obtain ⟨A, n, c, rfl, _, _, _, hr⟩ := u0.rows Try.underlying59 cells_step9 (by omega)
  obtain ⟨x1, rfl, _⟩ := u1.int Try.underlying3
  obtain ⟨x2, rfl, _⟩ := u2.int Try.underlying3
  obtain ⟨x3, rfl, _⟩ := u3.int Try.underlying3
  obtain ⟨x4, rfl, _⟩ := u4.int Try.underlying3
  obtain ⟨b, rfl⟩ := u5.bool Try.underlying4
  have hv6 := u6.1
  obtain ⟨cs, rfl, _⟩ := u6.struct Try.underlying37
  obtain ⟨y1, y2, y3, sh, AD, nD, cD, hcs⟩ := viewed_arr hv6
  have : cs = #[.int .i64 y1, .int .i64 y2, .int .i64 y3, .bool sh, .slice AD nD cD] := by
    apply Array.ext'; simpa [Value.cells] using hcs
  subst this
  exact wallTells_walk A n c x1 x2 x3 x4 b y1 y2 y3 sh AD nD cD w hr
end Go.Proofs.Ytjmpnkhgligdlaa
