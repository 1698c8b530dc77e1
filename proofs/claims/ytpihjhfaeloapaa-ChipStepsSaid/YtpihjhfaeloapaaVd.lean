/- MERGED by mergev.py: XThD XThF XThK XThL XThS. -/
import Derived.Test.YtpihjhfaeloapaaVc
import Derived.Test.YtpihjhfaeloapaaThB1
import Derived.Test.YtpihjhfaeloapaaThB2
import Derived.Test.YtpihjhfaeloapaaThB3
import Derived.Test.YtpihjhfaeloapaaThB4
import Derived.Test.YtpihjhfaeloapaaVa
import Derived.BigRegion
import Derived.Test.YtpihjhfaeloapaaVb
import Derived.Deep.RegionHeld3
import Derived.Deep.QuietTactic
import Derived.BigQuiet
namespace Go.Proofs.Ytpihjhfaeloapaa
open Go.RowKit On Th
theorem FoundAt.row {w : World} {op b : Int} {cs : Array Value} {n : Nat} {e : Ending} {w' : World} (h : FoundAt w op b cs n e w') (l : List Sl) (hl : l.length = n) (hc : (cellsOf l).toArray = cs) : RowAt l op b true w e w' := by
  subst hl; subst hc
  obtain ⟨g, h1, h2, h3⟩ := h
  exact ⟨_, h1, .inr ⟨g, rfl, h2⟩, h3⟩
theorem slSet {w : World} {A : Option Addr} {l : List Sl} (h : SlA 140 w A l) {b : Nat} (i : Nat) (u : Value) {t : TypeId} {cs : Array Value} (hb : Blk w b t cs) (ht : 140 ≠ t) : SlA 140 (w.setCell ⟨b, i, none⟩ u) A l := by
  rcases h with h | ⟨g, h1, h2⟩
  · exact .inl h
  · exact .inr ⟨g, h1, h2.far (h2.ne hb ht) u⟩
set_option maxHeartbeats 16000000 in
set_option maxRecDepth 100000 in
theorem find_late (op : Int) (w : World) (l : List Sl) (o b : Int) (ok : Bool) (hl : ∀ w, Calls Try.prog 84 #[.int .i64 op] w (RowAt l o b ok w)) (h1 : ¬ (12 ≤ op ∧ op ≤ 27)) (h2 : ¬ (8 ≤ op ∧ op ≤ 11)) (g1 : op ≠ 1) (g2 : op ≠ 2) (g3 : op ≠ 3) (g4 : op ≠ 4) (g5 : op ≠ 5) (g6 : op ≠ 6) (g7 : op ≠ 7) (g30 : op ≠ 30) (g29 : op ≠ 29) (g32 : op ≠ 32) (g31 : op ≠ 31) (g34 : op ≠ 34) (g33 : op ≠ 33) :
    Calls Try.prog 72 #[.int .i64 op] w (RowAt l o b ok w) := by
  have HL := Lib.hid hl
  clear hl
  have K0 : Blk (((((((((((w.alloc (.cells #[.int .i64 0, .int .u16 0, .slice none 0 0] 123)).alloc (.cells #[.int .i64 0, .int .i64 0, .int .i64 3, .int .i64 0, .int .i64 7, .int .i64 1] 140)).alloc (.cells #[.int .i64 2, .int .i64 3, .int .i64 3, .int .i64 0, .int .i64 7, .int .i64 1] 140)).alloc (.cells #[.int .i64 0, .int .i64 8, .int .i64 3, .int .i64 0, .int .i64 7, .int .i64 1] 140)).alloc (.cells #[.int .i64 1, .int .i64 3, .int .i64 3, .int .i64 0, .int .i64 7, .int .i64 1] 140)).alloc (.cells #[.int .i64 0, .int .i64 0, .int .i64 3, .int .i64 0, .int .i64 7, .int .i64 1] 140)).alloc (.cells #[.int .i64 2, .int .i64 3, .int .i64 3, .int .i64 0, .int .i64 7, .int .i64 1] 140)).alloc (.cells #[.int .i64 0, .int .i64 8, .int .i64 3, .int .i64 0, .int .i64 7, .int .i64 1] 140)).alloc (.cells #[.int .i64 1, .int .i64 3, .int .i64 3, .int .i64 0, .int .i64 7, .int .i64 1] 140)).alloc (.cells #[.int .i64 2, .int .i64 6, .int .i64 3, .int .i64 0, .int .i64 7, .int .i64 1] 140)).alloc (.cells #[.int .i64 2, .int .i64 6, .int .i64 3, .int .i64 0, .int .i64 7, .int .i64 1] 140)) w.heap.size 123 #[.int .i64 0, .int .u16 0, .slice none 0 0] := (Blk.alloc (Blk.alloc (Blk.alloc (Blk.alloc (Blk.alloc (Blk.alloc (Blk.alloc (Blk.alloc (Blk.alloc (Blk.alloc (Blk.new' _ _ _ _ rfl) _) _) _) _) _) _) _) _) _) _)
  have HB0 : Hid (Below w.heap.size w (((((((((((w.alloc (.cells #[.int .i64 0, .int .u16 0, .slice none 0 0] 123)).alloc (.cells #[.int .i64 0, .int .i64 0, .int .i64 3, .int .i64 0, .int .i64 7, .int .i64 1] 140)).alloc (.cells #[.int .i64 2, .int .i64 3, .int .i64 3, .int .i64 0, .int .i64 7, .int .i64 1] 140)).alloc (.cells #[.int .i64 0, .int .i64 8, .int .i64 3, .int .i64 0, .int .i64 7, .int .i64 1] 140)).alloc (.cells #[.int .i64 1, .int .i64 3, .int .i64 3, .int .i64 0, .int .i64 7, .int .i64 1] 140)).alloc (.cells #[.int .i64 0, .int .i64 0, .int .i64 3, .int .i64 0, .int .i64 7, .int .i64 1] 140)).alloc (.cells #[.int .i64 2, .int .i64 3, .int .i64 3, .int .i64 0, .int .i64 7, .int .i64 1] 140)).alloc (.cells #[.int .i64 0, .int .i64 8, .int .i64 3, .int .i64 0, .int .i64 7, .int .i64 1] 140)).alloc (.cells #[.int .i64 1, .int .i64 3, .int .i64 3, .int .i64 0, .int .i64 7, .int .i64 1] 140)).alloc (.cells #[.int .i64 2, .int .i64 6, .int .i64 3, .int .i64 0, .int .i64 7, .int .i64 1] 140)).alloc (.cells #[.int .i64 2, .int .i64 6, .int .i64 3, .int .i64 0, .int .i64 7, .int .i64 1] 140))) := by (repeat (first | exact Below.refl _ _ | refine belowD ?_ | refine Below.alloc ?_ (by first | omega | (simp; done) | (simp; omega)) _))
  have hlt : Hid (w.heap.size < (((((((((((w.alloc (.cells #[.int .i64 0, .int .u16 0, .slice none 0 0] 123)).alloc (.cells #[.int .i64 0, .int .i64 0, .int .i64 3, .int .i64 0, .int .i64 7, .int .i64 1] 140)).alloc (.cells #[.int .i64 2, .int .i64 3, .int .i64 3, .int .i64 0, .int .i64 7, .int .i64 1] 140)).alloc (.cells #[.int .i64 0, .int .i64 8, .int .i64 3, .int .i64 0, .int .i64 7, .int .i64 1] 140)).alloc (.cells #[.int .i64 1, .int .i64 3, .int .i64 3, .int .i64 0, .int .i64 7, .int .i64 1] 140)).alloc (.cells #[.int .i64 0, .int .i64 0, .int .i64 3, .int .i64 0, .int .i64 7, .int .i64 1] 140)).alloc (.cells #[.int .i64 2, .int .i64 3, .int .i64 3, .int .i64 0, .int .i64 7, .int .i64 1] 140)).alloc (.cells #[.int .i64 0, .int .i64 8, .int .i64 3, .int .i64 0, .int .i64 7, .int .i64 1] 140)).alloc (.cells #[.int .i64 1, .int .i64 3, .int .i64 3, .int .i64 0, .int .i64 7, .int .i64 1] 140)).alloc (.cells #[.int .i64 2, .int .i64 6, .int .i64 3, .int .i64 0, .int .i64 7, .int .i64 1] 140)).alloc (.cells #[.int .i64 2, .int .i64 6, .int .i64 3, .int .i64 0, .int .i64 7, .int .i64 1] 140)).heap.size) := K0.lt
  rcases (show op < 8 ∨ (11 < op ∧ op < 12) ∨ 27 < op by omega) with h3 | h3 | h3
  · have h4 : ¬ (12 ≤ op) := by omega
    have h5 : ¬ (8 ≤ op) := by omega
    clear h1 h2
    go_enter Try.func72, Try.ntmps72
    go_wp2_with fail
    refine (reg_c _ _ _).mono ?_
    rintro e w' ⟨rfl, rfl⟩
    go_wp2_with fail
    refine (reg_c _ _ _).mono ?_
    rintro e w' ⟨rfl, rfl⟩
    go_wp2_with fail
    refine (reg_c _ _ _).mono ?_
    rintro e w' ⟨rfl, rfl⟩
    go_wp2_with fail
    refine (reg_c _ _ _).mono ?_
    rintro e w' ⟨rfl, rfl⟩
    go_wp2_with fail
    refine (reg_c _ _ _).mono ?_
    rintro e w' ⟨rfl, rfl⟩
    go_wp2_with fail
    refine (HL.out _).mono ?_
    rintro e w2 ⟨A, rfl, hs, hb⟩
    have K2 : Blk w2 w.heap.size 123 #[.int .i64 0, .int .u16 0, .slice none 0 0] := K0.only (S := fun _ => False) (Only.of_below hb) id
    have HB2 := Lib.hid (HB0.out.trans (hb.mono HB0.out.size))
    have HS2 := Lib.hid hs
    have f0 := K2.frozen 0
    have f1 := K2.frozen 1
    have f2 := K2.frozen 2
    have k0 := K2.cell 0
    have k1 := K2.cell 1
    have k2 := K2.cell 2
    simp at k0 k1 k2
    have hwl : w.heap.size < w2.heap.size := K2.lt
    clear hs hb
    go_wp2_with fail
    have K3 : Blk (((w2.setCell ⟨w.heap.size, 0, none⟩ (.int .i64 o)).setCell ⟨w.heap.size, 1, none⟩ (.int .u16 b)).setCell ⟨w.heap.size, 2, none⟩ (.slice A l.length l.length)) w.heap.size 123 #[.int .i64 o, .int .u16 b, .slice A l.length l.length] := ((K2.set 0 _).set 1 _).set 2 _
    have r0 : (((w2.setCell ⟨w.heap.size, 0, none⟩ (.int .i64 o)).setCell ⟨w.heap.size, 1, none⟩ (.int .u16 b)).setCell ⟨w.heap.size, 2, none⟩ (.slice A l.length l.length)).cell? ⟨w.heap.size, 0, none⟩ = some (.int .i64 o) := K3.cell 0
    have r1 : (((w2.setCell ⟨w.heap.size, 0, none⟩ (.int .i64 o)).setCell ⟨w.heap.size, 1, none⟩ (.int .u16 b)).setCell ⟨w.heap.size, 2, none⟩ (.slice A l.length l.length)).cell? ⟨w.heap.size, 1, none⟩ = some (.int .u16 b) := K3.cell 1
    have r2 : (((w2.setCell ⟨w.heap.size, 0, none⟩ (.int .i64 o)).setCell ⟨w.heap.size, 1, none⟩ (.int .u16 b)).setCell ⟨w.heap.size, 2, none⟩ (.slice A l.length l.length)).cell? ⟨w.heap.size, 2, none⟩ = some (.slice A l.length l.length) := K3.cell 2
    have HS3 := slSet HS2.out (b := w.heap.size) 0 (.int .i64 o) K2 (by decide)
    have HS4 := slSet HS3 (b := w.heap.size) 1 (.int .u16 b) (K2.set 0 _) (by decide)
    have HS5 := Lib.hid (slSet HS4 (b := w.heap.size) 2 (.slice A l.length l.length) ((K2.set 0 _).set 1 _) (by decide))
    have HB5 := Lib.hid (((HB2.out.setCell (p := ⟨w.heap.size, 0, none⟩) (Nat.le_refl _) (.int .i64 o)).setCell (p := ⟨w.heap.size, 1, none⟩) (Nat.le_refl _) (.int .u16 b)).setCell (p := ⟨w.heap.size, 2, none⟩) (Nat.le_refl _) (.slice A l.length l.length))
    clear HS3 HS4 K3 K2 k0 k1 k2 f0 f1 f2
    refine bodyPost_ret (v := .tuple #[.agg #[.int .i64 o, .int .u16 b, .slice A l.length l.length], .bool ok]) (by rw [results_cell_tmp rfl]; go_simp) rfl ?_
    exact ⟨_, rfl, HS5.out, HB5.out⟩
  · exfalso; omega
  · have h4 : ¬ (op ≤ 27) := by omega
    have h5 : ¬ (op ≤ 11) := by omega
    have h6 : 12 ≤ op := by omega
    have h7 : 8 ≤ op := by omega
    clear h1 h2
    go_enter Try.func72, Try.ntmps72
    go_wp2_with fail
    refine (reg_c _ _ _).mono ?_
    rintro e w' ⟨rfl, rfl⟩
    go_wp2_with fail
    refine (reg_c _ _ _).mono ?_
    rintro e w' ⟨rfl, rfl⟩
    go_wp2_with fail
    refine (reg_c _ _ _).mono ?_
    rintro e w' ⟨rfl, rfl⟩
    go_wp2_with fail
    refine (reg_c _ _ _).mono ?_
    rintro e w' ⟨rfl, rfl⟩
    go_wp2_with fail
    refine (reg_c _ _ _).mono ?_
    rintro e w' ⟨rfl, rfl⟩
    go_wp2_with fail
    refine (HL.out _).mono ?_
    rintro e w2 ⟨A, rfl, hs, hb⟩
    have K2 : Blk w2 w.heap.size 123 #[.int .i64 0, .int .u16 0, .slice none 0 0] := K0.only (S := fun _ => False) (Only.of_below hb) id
    have HB2 := Lib.hid (HB0.out.trans (hb.mono HB0.out.size))
    have HS2 := Lib.hid hs
    have f0 := K2.frozen 0
    have f1 := K2.frozen 1
    have f2 := K2.frozen 2
    have k0 := K2.cell 0
    have k1 := K2.cell 1
    have k2 := K2.cell 2
    simp at k0 k1 k2
    have hwl : w.heap.size < w2.heap.size := K2.lt
    clear hs hb
    go_wp2_with fail
    have K3 : Blk (((w2.setCell ⟨w.heap.size, 0, none⟩ (.int .i64 o)).setCell ⟨w.heap.size, 1, none⟩ (.int .u16 b)).setCell ⟨w.heap.size, 2, none⟩ (.slice A l.length l.length)) w.heap.size 123 #[.int .i64 o, .int .u16 b, .slice A l.length l.length] := ((K2.set 0 _).set 1 _).set 2 _
    have r0 : (((w2.setCell ⟨w.heap.size, 0, none⟩ (.int .i64 o)).setCell ⟨w.heap.size, 1, none⟩ (.int .u16 b)).setCell ⟨w.heap.size, 2, none⟩ (.slice A l.length l.length)).cell? ⟨w.heap.size, 0, none⟩ = some (.int .i64 o) := K3.cell 0
    have r1 : (((w2.setCell ⟨w.heap.size, 0, none⟩ (.int .i64 o)).setCell ⟨w.heap.size, 1, none⟩ (.int .u16 b)).setCell ⟨w.heap.size, 2, none⟩ (.slice A l.length l.length)).cell? ⟨w.heap.size, 1, none⟩ = some (.int .u16 b) := K3.cell 1
    have r2 : (((w2.setCell ⟨w.heap.size, 0, none⟩ (.int .i64 o)).setCell ⟨w.heap.size, 1, none⟩ (.int .u16 b)).setCell ⟨w.heap.size, 2, none⟩ (.slice A l.length l.length)).cell? ⟨w.heap.size, 2, none⟩ = some (.slice A l.length l.length) := K3.cell 2
    have HS3 := slSet HS2.out (b := w.heap.size) 0 (.int .i64 o) K2 (by decide)
    have HS4 := slSet HS3 (b := w.heap.size) 1 (.int .u16 b) (K2.set 0 _) (by decide)
    have HS5 := Lib.hid (slSet HS4 (b := w.heap.size) 2 (.slice A l.length l.length) ((K2.set 0 _).set 1 _) (by decide))
    have HB5 := Lib.hid (((HB2.out.setCell (p := ⟨w.heap.size, 0, none⟩) (Nat.le_refl _) (.int .i64 o)).setCell (p := ⟨w.heap.size, 1, none⟩) (Nat.le_refl _) (.int .u16 b)).setCell (p := ⟨w.heap.size, 2, none⟩) (Nat.le_refl _) (.slice A l.length l.length))
    clear HS3 HS4 K3 K2 k0 k1 k2 f0 f1 f2
    refine bodyPost_ret (v := .tuple #[.agg #[.int .i64 o, .int .u16 b, .slice A l.length l.length], .bool ok]) (by rw [results_cell_tmp rfl]; go_simp) rfl ?_
    exact ⟨_, rfl, HS5.out, HB5.out⟩
end Go.Proofs.Ytpihjhfaeloapaa
namespace Go.Proofs.Ytpihjhfaeloapaa
open Go.RowKit On Th
/-- what find answers -/
def FindAt (op : Int) (w : World) (e : Ending) (w' : World) : Prop :=
  match rowOf op with
  | none => RowAt [] 0 0 false w e w'
  | some (b, l) => RowAt l op b true w e w'
theorem findAt_some {op b : Int} {l : List Sl} (h : rowOf op = some (b, l)) {w : World} {e : Ending} {w' : World} (r : RowAt l op b true w e w') : FindAt op w e w' := by unfold FindAt; rw [h]; exact r
theorem findAt_none {op : Int} (h : rowOf op = none) {w : World} {e : Ending} {w' : World} (r : RowAt [] 0 0 false w e w') : FindAt op w e w' := by unfold FindAt; rw [h]; exact r
theorem rowAt_nil {op b : Int} {ok : Bool} {w : World} {e : Ending} {w' : World} (h : e = .returned (.tuple #[.agg #[.int .i64 op, .int .u16 b, .slice none 0 0], .bool ok]) ∧ Below w.heap.size w w') : RowAt [] op b ok w e w' := ⟨none, h.1, .inl ⟨rfl, rfl⟩, h.2⟩
theorem find_c (op : Int) (w : World) : Calls Try.prog 72 #[.int .i64 op] w (FindAt op w) := by
  by_cases e1 : op = 1
  · subst e1; exact (find_1 w).mono fun e w' h => findAt_some (b := 0) (l := [reg 0 0, reg 2 3, im 6 5 0 31 1]) rfl (h.row [reg 0 0, reg 2 3, im 6 5 0 31 1] rfl rfl)
  by_cases e2 : op = 2
  · subst e2; exact (find_2 w).mono fun e w' h => findAt_some (b := 2048) (l := [reg 0 0, reg 2 3, im 6 5 1 32 1]) rfl (h.row [reg 0 0, reg 2 3, im 6 5 1 32 1] rfl rfl)
  by_cases e3 : op = 3
  · subst e3; exact (find_3 w).mono fun e w' h => findAt_some (b := 4096) (l := [reg 0 0, reg 2 3, im 6 5 1 32 1]) rfl (h.row [reg 0 0, reg 2 3, im 6 5 1 32 1] rfl rfl)
  by_cases e4 : op = 4
  · subst e4; exact (find_4 w).mono fun e w' h => findAt_some (b := 6144) (l := [reg 0 0, reg 1 3, reg 2 6]) rfl (h.row [reg 0 0, reg 1 3, reg 2 6] rfl rfl)
  by_cases e5 : op = 5
  · subst e5; exact (find_5 w).mono fun e w' h => findAt_some (b := 6656) (l := [reg 0 0, reg 1 3, reg 2 6]) rfl (h.row [reg 0 0, reg 1 3, reg 2 6] rfl rfl)
  by_cases e6 : op = 6
  · subst e6; exact (find_6 w).mono fun e w' h => findAt_some (b := 7168) (l := [reg 0 0, reg 1 3, reg 3 6]) rfl (h.row [reg 0 0, reg 1 3, reg 3 6] rfl rfl)
  by_cases e7 : op = 7
  · subst e7; exact (find_7 w).mono fun e w' h => findAt_some (b := 7680) (l := [reg 0 0, reg 1 3, reg 3 6]) rfl (h.row [reg 0 0, reg 1 3, reg 3 6] rfl rfl)
  by_cases e30 : op = 30
  · subst e30; exact (find_30 w).mono fun e w' h => findAt_some (b := 20480) (l := [reg 0 0, reg 1 3, reg 2 6]) rfl (h.row [reg 0 0, reg 1 3, reg 2 6] rfl rfl)
  by_cases e29 : op = 29
  · subst e29; exact (find_29 w).mono fun e w' h => findAt_some (b := 22528) (l := [reg 0 0, reg 1 3, reg 2 6]) rfl (h.row [reg 0 0, reg 1 3, reg 2 6] rfl rfl)
  by_cases e32 : op = 32
  · subst e32; exact (find_32 w).mono fun e w' h => findAt_some (b := 24576) (l := [reg 0 0, reg 1 3, im 6 5 0 124 4]) rfl (h.row [reg 0 0, reg 1 3, im 6 5 0 124 4] rfl rfl)
  by_cases e31 : op = 31
  · subst e31; exact (find_31 w).mono fun e w' h => findAt_some (b := 26624) (l := [reg 0 0, reg 1 3, im 6 5 0 124 4]) rfl (h.row [reg 0 0, reg 1 3, im 6 5 0 124 4] rfl rfl)
  by_cases e34 : op = 34
  · subst e34; exact (find_34 w).mono fun e w' h => findAt_some (b := 28672) (l := [reg 0 0, reg 1 3, im 6 5 0 31 1]) rfl (h.row [reg 0 0, reg 1 3, im 6 5 0 31 1] rfl rfl)
  by_cases e33 : op = 33
  · subst e33; exact (find_33 w).mono fun e w' h => findAt_some (b := 30720) (l := [reg 0 0, reg 1 3, im 6 5 0 31 1]) rfl (h.row [reg 0 0, reg 1 3, im 6 5 0 31 1] rfl rfl)
  by_cases e12 : 12 ≤ op ∧ op ≤ 27
  · exact (find_and op w e12.1 e12.2).mono fun e w' h => findAt_some (by unfold rowOf; rw [if_pos e12]) (h.row [reg 0 0, reg 2 3] rfl rfl)
  by_cases e8 : 8 ≤ op ∧ op ≤ 11
  · exact (find_mov op w e8.1 e8.2).mono fun e w' h => findAt_some (by unfold rowOf; rw [if_neg e12, if_pos e8]) (h.row [reg 0 8, im 0 8 0 255 1] rfl rfl)
  by_cases e36 : op = 36
  · subst e36; exact (find_late 36 w [reg 0 8, im 0 8 0 1020 4] 36 36864 true (fun w => (later_36 w).mono (fun e w' h => h.row [reg 0 8, im 0 8 0 1020 4] rfl rfl)) (by decide) (by decide) (by decide) (by decide) (by decide) (by decide) (by decide) (by decide) (by decide) (by decide) (by decide) (by decide) (by decide) (by decide) (by decide) ).mono fun e w' h => findAt_some (b := 36864) (l := [reg 0 8, im 0 8 0 1020 4]) rfl h
  by_cases e35 : op = 35
  · subst e35; exact (find_late 35 w [reg 0 8, im 0 8 0 1020 4] 35 38912 true (fun w => (later_35 w).mono (fun e w' h => h.row [reg 0 8, im 0 8 0 1020 4] rfl rfl)) (by decide) (by decide) (by decide) (by decide) (by decide) (by decide) (by decide) (by decide) (by decide) (by decide) (by decide) (by decide) (by decide) (by decide) (by decide) ).mono fun e w' h => findAt_some (b := 38912) (l := [reg 0 8, im 0 8 0 1020 4]) rfl h
  by_cases e37 : op = 37
  · subst e37; exact (find_late 37 w [im 0 7 0 508 4] 37 45056 true (fun w => (later_37 w).mono (fun e w' h => h.row [im 0 7 0 508 4] rfl rfl)) (by decide) (by decide) (by decide) (by decide) (by decide) (by decide) (by decide) (by decide) (by decide) (by decide) (by decide) (by decide) (by decide) (by decide) (by decide) ).mono fun e w' h => findAt_some (b := 45056) (l := [im 0 7 0 508 4]) rfl h
  by_cases e38 : op = 38
  · subst e38; exact (find_late 38 w [im 0 7 0 508 4] 38 45184 true (fun w => (later_38 w).mono (fun e w' h => h.row [im 0 7 0 508 4] rfl rfl)) (by decide) (by decide) (by decide) (by decide) (by decide) (by decide) (by decide) (by decide) (by decide) (by decide) (by decide) (by decide) (by decide) (by decide) (by decide) ).mono fun e w' h => findAt_some (b := 45184) (l := [im 0 7 0 508 4]) rfl h
  by_cases e39 : op = 39
  · subst e39; exact (find_late 39 w [im 0 9 1 511 1] 39 46080 true (fun w => (later_39 w).mono (fun e w' h => h.row [im 0 9 1 511 1] rfl rfl)) (by decide) (by decide) (by decide) (by decide) (by decide) (by decide) (by decide) (by decide) (by decide) (by decide) (by decide) (by decide) (by decide) (by decide) (by decide) ).mono fun e w' h => findAt_some (b := 46080) (l := [im 0 9 1 511 1]) rfl h
  by_cases e40 : op = 40
  · subst e40; exact (find_late 40 w [im 0 9 1 511 1] 40 48128 true (fun w => (later_40 w).mono (fun e w' h => h.row [im 0 9 1 511 1] rfl rfl)) (by decide) (by decide) (by decide) (by decide) (by decide) (by decide) (by decide) (by decide) (by decide) (by decide) (by decide) (by decide) (by decide) (by decide) (by decide) ).mono fun e w' h => findAt_some (b := 48128) (l := [im 0 9 1 511 1]) rfl h
  by_cases e41 : op = 41
  · subst e41; exact (find_late 41 w [im 0 8 (-256) 254 2, ⟨4, 8, 4, 0, 13, 1⟩] 41 53248 true (fun w => (later_41 w).mono (fun e w' h => h.row [im 0 8 (-256) 254 2, ⟨4, 8, 4, 0, 13, 1⟩] rfl rfl)) (by decide) (by decide) (by decide) (by decide) (by decide) (by decide) (by decide) (by decide) (by decide) (by decide) (by decide) (by decide) (by decide) (by decide) (by decide) ).mono fun e w' h => findAt_some (b := 53248) (l := [im 0 8 (-256) 254 2, ⟨4, 8, 4, 0, 13, 1⟩]) rfl h
  by_cases e42 : op = 42
  · subst e42; exact (find_late 42 w [im 0 11 (-2048) 2046 2] 42 57344 true (fun w => (later_42 w).mono (fun e w' h => h.row [im 0 11 (-2048) 2046 2] rfl rfl)) (by decide) (by decide) (by decide) (by decide) (by decide) (by decide) (by decide) (by decide) (by decide) (by decide) (by decide) (by decide) (by decide) (by decide) (by decide) ).mono fun e w' h => findAt_some (b := 57344) (l := [im 0 11 (-2048) 2046 2]) rfl h
  by_cases e44 : op = 44
  · subst e44; exact (find_late 44 w [im 0 8 0 255 1] 44 57088 true (fun w => (later_44 w).mono (fun e w' h => h.row [im 0 8 0 255 1] rfl rfl)) (by decide) (by decide) (by decide) (by decide) (by decide) (by decide) (by decide) (by decide) (by decide) (by decide) (by decide) (by decide) (by decide) (by decide) (by decide) ).mono fun e w' h => findAt_some (b := 57088) (l := [im 0 8 0 255 1]) rfl h
  by_cases e45 : op = 45
  · subst e45; exact (find_late 45 w [] 45 48896 true (fun w => (later_45 w).mono (fun e w' h => rowAt_nil h)) (by decide) (by decide) (by decide) (by decide) (by decide) (by decide) (by decide) (by decide) (by decide) (by decide) (by decide) (by decide) (by decide) (by decide) (by decide) ).mono fun e w' h => findAt_some (b := 48896) (l := []) rfl h
  exact (find_late op w [] 0 0 false (fun w => (later_none op w e36 e35 e37 e38 e39 e40 e41 e42 e44 e45).mono (fun e w' h => rowAt_nil h)) e12 e8 e1 e2 e3 e4 e5 e6 e7 e30 e29 e32 e31 e34 e33).mono fun e w' h => findAt_none (by simp [rowOf, e12, e8, e1, e2, e3, e4, e5, e6, e7, e30, e29, e32, e31, e34, e33, e36, e35, e37, e38, e39, e40, e41, e42, e44, e45]) h
theorem right_c (i : Ins) (w : World) : Calls Try.prog 71 #[.agg #[.int .i64 i.op, .int .i64 i.d, .int .i64 i.n, .int .i64 i.m, .int .i64 i.imm, .int .i64 i.cond]] w fun e w' => e = .returned (.bool (rightS i)) ∧ Below w.heap.size w w' := by
  obtain ⟨op, d, n, m, imm, cond⟩ := i
  by_cases h28 : op = 28
  · subst h28; exact right28 d n m imm cond w
  by_cases h43 : op = 43
  · subst h43; exact right43 d n m imm cond w
  have e : rightS ⟨op, d, n, m, imm, cond⟩ = match rowOf op with
      | none => false
      | some (_, l) => rowOk l ⟨op, d, n, m, imm, cond⟩ := by unfold rightS; rw [if_neg h28, if_neg h43]; rfl
  rw [e]
  cases hr : rowOf op with
  | none => exact (rightRow op d n m imm cond 0 0 [] false w (fun w => (find_c op w).mono fun e w' h => by unfold FindAt at h; rw [hr] at h; exact h) (by simp) (by simp) h28 h43).mono fun e w' h => h
  | some p =>
    obtain ⟨b, l⟩ := p
    obtain ⟨h1, h2⟩ := rowOf_ok hr
    have h1 : ∀ s ∈ l, s.step ≠ 0 := fun s hs => (h1 s hs).1
    exact (rightRow op d n m imm cond op b l true w (fun w => (find_c op w).mono fun e w' h => by unfold FindAt at h; rw [hr] at h; exact h) h1 h2 h28 h43).mono fun e w' h => h
end Go.Proofs.Ytpihjhfaeloapaa
namespace Go.Proofs.Ytpihjhfaeloapaa
open Go.RowKit On Th
theorem blkSet {w : World} {b : Nat} {i : Ins} {k v : Int} (h : Blk w b 36 i.cells) : Blk (w.setCell ⟨b, po k, none⟩ (.int .i64 v)) b 36 (i.set k v).cells := set_cells i k v ▸ h.set (po k) _
set_option maxHeartbeats 8000000 in
theorem read_c (op b h : Int) (l : List Sl) (A : Option Addr) (w : World) (hl : SlA 140 w A l) (hst : ∀ s ∈ l, s.step ≠ 0 ∧ 0 ≤ s.bits ∧ s.bits < 16 ∧ 0 ≤ s.shift ∧ s.shift < 16) (hlen : l.length ≤ 5) (_ : 0 ≤ h) (_ : h < 65536) :
    Calls Try.prog 74 #[.agg #[.int .i64 op, .int .u16 b, .slice A l.length l.length], .int .u16 h] w fun e w' =>
      e = .returned (.tuple #[.agg (readUp op h l l.length).1.cells, .bool (((readUp op h l l.length).2 == b) && rightS (readUp op h l l.length).1)]) ∧ Below w.heap.size w w' := by
  have HST := Lib.hid hst
  have HL := Lib.hid hl
  clear hst hl
  have KR : Blk (((w.alloc (.cells #[.int .i64 op, .int .u16 b, .slice A l.length l.length] 123)).alloc (.cells #[.int .i64 0, .int .i64 0, .int .i64 0, .int .i64 0, .int .i64 0, .int .i64 0] 36)).alloc (.cells #[.int .i64 op, .int .i64 0, .int .i64 0, .int .i64 0, .int .i64 0, .int .i64 0] 36)) w.heap.size 123 #[.int .i64 op, .int .u16 b, .slice A l.length l.length] := (Blk.alloc (Blk.alloc (Blk.new _ _ _) _) _)
  have KR := Lib.hid KR
  go_enter Try.func74, Try.ntmps74
  go_wp2_with fail
  go_loopw [7, 19] (fun r j wr => ∃ q : Nat, q ≤ l.length ∧ j = .int .i64 q ∧ r = .int .u16 (readUp op h l q).2 ∧ Blk wr (w.heap.size + 1 + 1) 36 (readUp op h l q).1.cells ∧ Blk wr (w.heap.size + 1) 36 #[.int .i64 0, .int .i64 0, .int .i64 0, .int .i64 0, .int .i64 0, .int .i64 0] ∧ Blk wr w.heap.size 123 #[.int .i64 op, .int .u16 b, .slice A l.length l.length] ∧ Below w.heap.size w wr) (fun _ j _ => l.length - (intOf j).toNat)
  case atStart => exact ⟨0, Nat.zero_le _, rfl, rfl, Blk.new' _ _ _ _ (by simp only [World.size_alloc]), Blk.alloc (Blk.new' _ _ _ _ (by simp only [World.size_alloc])) _, KR.out, (((Below.refl _ _).alloc (Nat.le_refl _) _).alloc (by simp) _).alloc (by simp; omega) _⟩
  case round =>
    obtain ⟨q, hq, rfl, rfl, ki, kz, kr, hb⟩ := hrel
    have HB := Lib.hid hb
    have HLR := Lib.hid (HL.out.below hb)
    clear hb
    by_cases hlt : q < l.length
    · obtain ⟨s, hs⟩ : ∃ s, l[q]? = some s := ⟨l[q], by simp [hlt]⟩
      obtain ⟨hstep, hb0, hb1, hs0, hs1⟩ := HST.out s (List.mem_of_getElem? hs)
      have HU := Lib.hid (readUp_succ op h l hs)
      have HLT := Lib.hid hlt
      obtain ⟨g, hA, hg, c0, c1, c2, c3, c4, c5⟩ := HLR.out.cell hs
      subst hA
      generalize readUp op h l q = st at ki HU
      obtain ⟨si, rest⟩ := st
      dsimp only at ki HU ⊢
      have KS : Blk (wr.alloc (.cells #[.int .i64 s.part, .int .i64 s.shift, .int .i64 s.bits, .int .i64 s.least, .int .i64 s.most, .int .i64 s.step] 140)) wr.heap.size 140 #[.int .i64 s.part, .int .i64 s.shift, .int .i64 s.bits, .int .i64 s.least, .int .i64 s.most, .int .i64 s.step] := Blk.new _ _ _
      have ksx := Blk.six KS
      have KI := Lib.hid ((ki.alloc (.cells #[.int .i64 s.part, .int .i64 s.shift, .int .i64 s.bits, .int .i64 s.least, .int .i64 s.most, .int .i64 s.step] 140)).drew.drew)
      have KZ := Lib.hid ((kz.alloc (.cells #[.int .i64 s.part, .int .i64 s.shift, .int .i64 s.bits, .int .i64 s.least, .int .i64 s.most, .int .i64 s.step] 140)).drew.drew)
      have KR := Lib.hid ((kr.alloc (.cells #[.int .i64 s.part, .int .i64 s.shift, .int .i64 s.bits, .int .i64 s.least, .int .i64 s.most, .int .i64 s.step] 140)).drew.drew)
      have HBA : Hid (Below w.heap.size w (wr.alloc (.cells #[.int .i64 s.part, .int .i64 s.shift, .int .i64 s.bits, .int .i64 s.least, .int .i64 s.most, .int .i64 s.step] 140)).drew.drew) := belowD (belowD (HB.out.alloc HB.out.size _))
      clear KS hs HST ki kz kr hlt
      go_wp2_with fail
      go_region_held3 (fun w' => w'.cell? ⟨wr.heap.size, 0, none⟩ = some (.int .i64 s.part) ∧ w'.cell? ⟨wr.heap.size, 1, none⟩ = some (.int .i64 s.shift) ∧ w'.cell? ⟨wr.heap.size, 2, none⟩ = some (.int .i64 s.bits) ∧ w'.cell? ⟨wr.heap.size, 3, none⟩ = some (.int .i64 s.least) ∧ w'.cell? ⟨wr.heap.size, 4, none⟩ = some (.int .i64 s.most) ∧ w'.cell? ⟨wr.heap.size, 5, none⟩ = some (.int .i64 s.step)) (exact ksx) (fail)
      generalize hm : IntKind.u16.wrap (IntKind.u16.wrap (IntKind.u16.wrap (2 ^ s.bits.toNat) - 1) * 2 ^ s.shift.toNat) = mk
      have HM : Hid (maskS s = mk) := hm
      clear hm
      go_wp2_with fail
      go_region_held3 (fun w' => w'.cell? ⟨wr.heap.size, 0, none⟩ = some (.int .i64 s.part) ∧ w'.cell? ⟨wr.heap.size, 1, none⟩ = some (.int .i64 s.shift) ∧ w'.cell? ⟨wr.heap.size, 2, none⟩ = some (.int .i64 s.bits) ∧ w'.cell? ⟨wr.heap.size, 3, none⟩ = some (.int .i64 s.least) ∧ w'.cell? ⟨wr.heap.size, 4, none⟩ = some (.int .i64 s.most) ∧ w'.cell? ⟨wr.heap.size, 5, none⟩ = some (.int .i64 s.step)) (exact ksx) (fail)
      generalize hn : IntKind.i64.wrap (IntKind.i64.wrap (bits .and .u16 h mk / 2 ^ s.shift.toNat) * s.step) = nn
      have HN : Hid (rawS h s = nn) := by
        show rawS h s = nn
        unfold rawS
        rw [HM.out]
        exact hn
      clear hn
      rcases (show s.most < nn ∨ (nn ≤ s.most ∧ nn < s.least) ∨ (nn ≤ s.most ∧ s.least ≤ nn) by omega) with h1 | ⟨h1, h2⟩ | ⟨h1, h2⟩
      · have HNS : Hid (numS h s = wrap64 (nn - wrap64 (s.step * 2 ^ s.bits.toNat))) := by
          show numS h s = _
          unfold numS
          rw [HN.out, if_pos h1]
        go_wp2_with fail
        refine (width_c _ _ _ _ _ _ _ hb0 hb1).mono ?_
        rintro e w' ⟨rfl, rfl⟩
        have kx : Blk (((wr.alloc (.cells #[.int .i64 s.part, .int .i64 s.shift, .int .i64 s.bits, .int .i64 s.least, .int .i64 s.most, .int .i64 s.step] 140)).alloc (.cells #[.int .i64 s.part, .int .i64 s.shift, .int .i64 s.bits, .int .i64 s.least, .int .i64 s.most, .int .i64 s.step] 140)).drew.drew) (w.heap.size + 1 + 1) 36 si.cells := KI.out.alloc (.cells #[.int .i64 s.part, .int .i64 s.shift, .int .i64 s.bits, .int .i64 s.least, .int .i64 s.most, .int .i64 s.step] 140)
        have fc := (kx.cell (po s.part)).trans (part_cell si s.part)
        have ff := kx.frozen (po s.part)
        have KX := Lib.hid kx
        clear kx
        go_wp2_with fail
        refine (part_c _ _ _).mono ?_
        rintro e w' ⟨rfl, rfl⟩
        go_wp2_with fail
        go_roundw
        case rel =>
          refine ⟨q + 1, by have := HLT.out; omega, by go_num, by rw [HU.out]; unfold readStep; rw [HM.out], by rw [HU.out]; unfold readStep; dsimp only; rw [HNS.out]; exact blkSet KX.out, (KZ.out.alloc (.cells #[.int .i64 s.part, .int .i64 s.shift, .int .i64 s.bits, .int .i64 s.least, .int .i64 s.most, .int .i64 s.step] 140)).far (by simp) _, (KR.out.alloc (.cells #[.int .i64 s.part, .int .i64 s.shift, .int .i64 s.bits, .int .i64 s.least, .int .i64 s.most, .int .i64 s.step] 140)).far (by simp; omega) _, (HBA.out.alloc HBA.out.size _).setCell (by simp; omega) _⟩
        case measure => have := HLT.out; simp [intOf]; omega
      · have HNS : Hid (numS h s = wrap64 (nn + wrap64 (s.step * 2 ^ s.bits.toNat))) := by
          show numS h s = _
          unfold numS
          rw [HN.out, if_neg (by omega), if_pos h2]
        go_wp2_with fail
        refine (width_c _ _ _ _ _ _ _ hb0 hb1).mono ?_
        rintro e w' ⟨rfl, rfl⟩
        have kx : Blk (((wr.alloc (.cells #[.int .i64 s.part, .int .i64 s.shift, .int .i64 s.bits, .int .i64 s.least, .int .i64 s.most, .int .i64 s.step] 140)).alloc (.cells #[.int .i64 s.part, .int .i64 s.shift, .int .i64 s.bits, .int .i64 s.least, .int .i64 s.most, .int .i64 s.step] 140)).drew.drew) (w.heap.size + 1 + 1) 36 si.cells := KI.out.alloc (.cells #[.int .i64 s.part, .int .i64 s.shift, .int .i64 s.bits, .int .i64 s.least, .int .i64 s.most, .int .i64 s.step] 140)
        have fc := (kx.cell (po s.part)).trans (part_cell si s.part)
        have ff := kx.frozen (po s.part)
        have KX := Lib.hid kx
        clear kx
        go_wp2_with fail
        refine (part_c _ _ _).mono ?_
        rintro e w' ⟨rfl, rfl⟩
        go_wp2_with fail
        go_roundw
        case rel =>
          refine ⟨q + 1, by have := HLT.out; omega, by go_num, by rw [HU.out]; unfold readStep; rw [HM.out], by rw [HU.out]; unfold readStep; dsimp only; rw [HNS.out]; exact blkSet KX.out, (KZ.out.alloc (.cells #[.int .i64 s.part, .int .i64 s.shift, .int .i64 s.bits, .int .i64 s.least, .int .i64 s.most, .int .i64 s.step] 140)).far (by simp) _, (KR.out.alloc (.cells #[.int .i64 s.part, .int .i64 s.shift, .int .i64 s.bits, .int .i64 s.least, .int .i64 s.most, .int .i64 s.step] 140)).far (by simp; omega) _, (HBA.out.alloc HBA.out.size _).setCell (by simp; omega) _⟩
        case measure => have := HLT.out; simp [intOf]; omega
      · have HNS : Hid (numS h s = nn) := by
          show numS h s = _
          unfold numS
          rw [HN.out, if_neg (by omega), if_neg (by omega)]
        have kx := KI.out
        have fc := (kx.cell (po s.part)).trans (part_cell si s.part)
        have ff := kx.frozen (po s.part)
        have KX := Lib.hid kx
        clear kx
        go_wp2_with fail
        refine (part_c _ _ _).mono ?_
        rintro e w' ⟨rfl, rfl⟩
        go_wp2_with fail
        go_roundw
        case rel =>
          refine ⟨q + 1, by have := HLT.out; omega, by go_num, by rw [HU.out]; unfold readStep; rw [HM.out], by rw [HU.out]; unfold readStep; dsimp only; rw [HNS.out]; exact blkSet KX.out, (KZ.out).far (by simp) _, (KR.out).far (by simp; omega) _, (HBA.out).setCell (by simp; omega) _⟩
        case measure => have := HLT.out; simp [intOf]; omega
    · have hqe : q = l.length := by omega
      subst hqe
      have HU : Hid (∃ st, readUp op h l l.length = st) := ⟨_, rfl⟩
      obtain ⟨st, hst⟩ := HU.out
      rw [hst] at ki ⊢
      have HS := Lib.hid hst
      clear hst HU
      obtain ⟨⟨so, sd, sn, sm, si, sc⟩, rest⟩ := st
      dsimp only at ki ⊢
      have KI : Blk wr (w.heap.size + 1 + 1) 36 #[.int .i64 so, .int .i64 sd, .int .i64 sn, .int .i64 sm, .int .i64 si, .int .i64 sc] := ki
      have kf := And.intro (Blk.six KI) (show wr.cell? ⟨w.heap.size, 1, none⟩ = some (.int .u16 b) from kr.cell 1)
      have z0 := kz.cell 0
      have z1 := kz.cell 1
      have z2 := kz.cell 2
      have z3 := kz.cell 3
      have z4 := kz.cell 4
      have z5 := kz.cell 5
      simp at z0 z1 z2 z3 z4 z5
      have f0 := kz.frozen 0
      have f1 := kz.frozen 1
      have f2 := kz.frozen 2
      have f3 := kz.frozen 3
      have f4 := kz.frozen 4
      have f5 := kz.frozen 5
      have KI := Lib.hid KI
      have KZ := Lib.hid kz
      have KR := Lib.hid kr
      clear ki kz kr HST HLR
      by_cases hrb : rest = b
      · have hbe : (rest == b) = true := by simp [hrb]
        have HRB := Lib.hid hrb
        clear hrb
        have kg := kf
        have ks := kf
        go_wp2_with fail
        go_region_held3 (fun w' => (w'.cell? ⟨w.heap.size + 1 + 1, 0, none⟩ = some (.int .i64 so) ∧ w'.cell? ⟨w.heap.size + 1 + 1, 1, none⟩ = some (.int .i64 sd) ∧ w'.cell? ⟨w.heap.size + 1 + 1, 2, none⟩ = some (.int .i64 sn) ∧ w'.cell? ⟨w.heap.size + 1 + 1, 3, none⟩ = some (.int .i64 sm) ∧ w'.cell? ⟨w.heap.size + 1 + 1, 4, none⟩ = some (.int .i64 si) ∧ w'.cell? ⟨w.heap.size + 1 + 1, 5, none⟩ = some (.int .i64 sc)) ∧ w'.cell? ⟨w.heap.size, 1, none⟩ = some (.int .u16 b)) (first | (with_reducible exact ks) | (with_reducible exact kg) | exact kf)
          (first | (go_at_call 71; refine (right_c ⟨so, sd, sn, sm, si, sc⟩ _).mono ?_; rintro e w3 ⟨rfl, hb3⟩; have K3 := KI.out.drew.only (S := fun _ => False) (Only.of_below hb3) id; have R3 := KR.out.drew.only (S := fun _ => False) (Only.of_below hb3) id; have kg := And.intro (Blk.six K3) (show w3.cell? ⟨w.heap.size, 1, none⟩ = some (.int .u16 b) from R3.cell 1); have ks := And.intro (Blk.six (show Blk ((((((w3.setCell ⟨w.heap.size + 1, 0, none⟩ (.int .i64 so)).setCell ⟨w.heap.size + 1, 1, none⟩ (.int .i64 sd)).setCell ⟨w.heap.size + 1, 2, none⟩ (.int .i64 sn)).setCell ⟨w.heap.size + 1, 3, none⟩ (.int .i64 sm)).setCell ⟨w.heap.size + 1, 4, none⟩ (.int .i64 si)).setCell ⟨w.heap.size + 1, 5, none⟩ (.int .i64 sc)) (w.heap.size + 1 + 1) 36 #[.int .i64 so, .int .i64 sd, .int .i64 sn, .int .i64 sm, .int .i64 si, .int .i64 sc] from ((((((K3.far (p := ⟨w.heap.size + 1, 0, none⟩) (by simp) _).far (p := ⟨w.heap.size + 1, 1, none⟩) (by simp) _).far (p := ⟨w.heap.size + 1, 2, none⟩) (by simp) _).far (p := ⟨w.heap.size + 1, 3, none⟩) (by simp) _).far (p := ⟨w.heap.size + 1, 4, none⟩) (by simp) _).far (p := ⟨w.heap.size + 1, 5, none⟩) (by simp) _))) (show ((((((w3.setCell ⟨w.heap.size + 1, 0, none⟩ (.int .i64 so)).setCell ⟨w.heap.size + 1, 1, none⟩ (.int .i64 sd)).setCell ⟨w.heap.size + 1, 2, none⟩ (.int .i64 sn)).setCell ⟨w.heap.size + 1, 3, none⟩ (.int .i64 sm)).setCell ⟨w.heap.size + 1, 4, none⟩ (.int .i64 si)).setCell ⟨w.heap.size + 1, 5, none⟩ (.int .i64 sc)).cell? ⟨w.heap.size, 1, none⟩ = some (.int .u16 b) from ((((((R3.far (p := ⟨w.heap.size + 1, 0, none⟩) (by simp) _).far (p := ⟨w.heap.size + 1, 1, none⟩) (by simp) _).far (p := ⟨w.heap.size + 1, 2, none⟩) (by simp) _).far (p := ⟨w.heap.size + 1, 3, none⟩) (by simp) _).far (p := ⟨w.heap.size + 1, 4, none⟩) (by simp) _).far (p := ⟨w.heap.size + 1, 5, none⟩) (by simp) _).cell 1); have Z3 := KZ.out.drew.only (S := fun _ => False) (Only.of_below hb3) id; have z0 := Z3.cell 0; have z1 := Z3.cell 1; have z2 := Z3.cell 2; have z3 := Z3.cell 3; have z4 := Z3.cell 4; have z5 := Z3.cell 5; simp at z0 z1 z2 z3 z4 z5; have f0 := Z3.frozen 0; have f1 := Z3.frozen 1; have f2 := Z3.frozen 2; have f3 := Z3.frozen 3; have f4 := Z3.frozen 4; have f5 := Z3.frozen 5))
        have KE : Blk ((((((w3.setCell ⟨w.heap.size + 1, 0, none⟩ (.int .i64 so)).setCell ⟨w.heap.size + 1, 1, none⟩ (.int .i64 sd)).setCell ⟨w.heap.size + 1, 2, none⟩ (.int .i64 sn)).setCell ⟨w.heap.size + 1, 3, none⟩ (.int .i64 sm)).setCell ⟨w.heap.size + 1, 4, none⟩ (.int .i64 si)).setCell ⟨w.heap.size + 1, 5, none⟩ (.int .i64 sc)) (w.heap.size + 1) 36 #[.int .i64 so, .int .i64 sd, .int .i64 sn, .int .i64 sm, .int .i64 si, .int .i64 sc] := ((((((((((((Z3).set 0 _)).set 1 _)).set 2 _)).set 3 _)).set 4 _)).set 5 _)
        have ke := Blk.six KE
        have HE := Lib.hid (((((((((((((belowD HB.out).trans (hb3.mono (belowD HB.out).size)).setCell (p := ⟨w.heap.size + 1, 0, none⟩) (Nat.le_succ _) (.int .i64 so))).setCell (p := ⟨w.heap.size + 1, 1, none⟩) (Nat.le_succ _) (.int .i64 sd))).setCell (p := ⟨w.heap.size + 1, 2, none⟩) (Nat.le_succ _) (.int .i64 sn))).setCell (p := ⟨w.heap.size + 1, 3, none⟩) (Nat.le_succ _) (.int .i64 sm))).setCell (p := ⟨w.heap.size + 1, 4, none⟩) (Nat.le_succ _) (.int .i64 si))).setCell (p := ⟨w.heap.size + 1, 5, none⟩) (Nat.le_succ _) (.int .i64 sc))
        clear KE z0 z1 z2 z3 z4 z5 f0 f1 f2 f3 f4 f5 ks kf kg
        go_wp2_with fail
        refine bodyPost_ret (v := .tuple #[.agg #[.int .i64 so, .int .i64 sd, .int .i64 sn, .int .i64 sm, .int .i64 si, .int .i64 sc], .bool (rightS ⟨so, sd, sn, sm, si, sc⟩)]) (by rw [results_cell_tmp rfl]; go_simp) rfl ?_
        rw [HS.out]
        dsimp only
        rw [show (rest == b) = true from by rw [HRB.out]; simp, Bool.true_and]
        exact ⟨rfl, HE.out⟩

      · have hbe : (rest == b) = false := by simp [hrb]
        have HRB := Lib.hid hrb
        clear hrb
        go_wp2_with fail
        go_region
        have KE : Blk ((((((wr.setCell ⟨w.heap.size + 1, 0, none⟩ (.int .i64 so)).setCell ⟨w.heap.size + 1, 1, none⟩ (.int .i64 sd)).setCell ⟨w.heap.size + 1, 2, none⟩ (.int .i64 sn)).setCell ⟨w.heap.size + 1, 3, none⟩ (.int .i64 sm)).setCell ⟨w.heap.size + 1, 4, none⟩ (.int .i64 si)).setCell ⟨w.heap.size + 1, 5, none⟩ (.int .i64 sc)).drew (w.heap.size + 1) 36 #[.int .i64 so, .int .i64 sd, .int .i64 sn, .int .i64 sm, .int .i64 si, .int .i64 sc] := ((((((((((((KZ.out).set 0 _)).set 1 _)).set 2 _)).set 3 _)).set 4 _)).set 5 _).drew
        have ke := Blk.six KE
        have HE := Lib.hid (belowD ((((((((((((HB.out).setCell (p := ⟨w.heap.size + 1, 0, none⟩) (Nat.le_succ _) (.int .i64 so))).setCell (p := ⟨w.heap.size + 1, 1, none⟩) (Nat.le_succ _) (.int .i64 sd))).setCell (p := ⟨w.heap.size + 1, 2, none⟩) (Nat.le_succ _) (.int .i64 sn))).setCell (p := ⟨w.heap.size + 1, 3, none⟩) (Nat.le_succ _) (.int .i64 sm))).setCell (p := ⟨w.heap.size + 1, 4, none⟩) (Nat.le_succ _) (.int .i64 si))).setCell (p := ⟨w.heap.size + 1, 5, none⟩) (Nat.le_succ _) (.int .i64 sc)))
        clear KE z0 z1 z2 z3 z4 z5 f0 f1 f2 f3 f4 f5 kf
        go_wp2_with fail
        refine bodyPost_ret (v := .tuple #[.agg #[.int .i64 so, .int .i64 sd, .int .i64 sn, .int .i64 sm, .int .i64 si, .int .i64 sc], .bool false]) (by rw [results_cell_tmp rfl]; go_simp) rfl ?_
        rw [HS.out]
        dsimp only
        rw [show (rest == b) = false from by simpa using HRB.out, Bool.false_and]
        exact ⟨rfl, HE.out⟩

end Go.Proofs.Ytpihjhfaeloapaa
namespace Go.Proofs.Ytpihjhfaeloapaa
open Go.RowKit On Th
set_option maxHeartbeats 2000000 in
theorem far_c (a b : Int) (w : World) : Calls Try.prog 70 #[.int .u16 a, .int .u16 b] w fun e w' => e = .returned (.int .i64 (farE a b)) ∧ w = w' := by
  go_enter Try.func70, Try.ntmps70
  go_wp2_with fail
  go_ret
  exact ⟨rfl, rfl⟩
theorem results_cell_tmp2 {fn : Func} {p u v : Tmp} {ty : TypeId} (h : fn.results = #[.cell p ty, .tmp u, .tmp v]) (tmps : Array Value) (P : Program) (w : World) :
    (results fn tmps).run P w =
      ((asAddr (tmps.getD p undef)).run P w).andThen fun a w₁ => ((loadVar ty a).run P w₁).andThen fun x w₂ => .ok (.tuple #[x, tmps.getD u undef, tmps.getD v undef]) w₂ := by
  simp only [results, h]
  simp [Sem.run_bind, Result.andThen]
/-- what Decode answers: the instruction, how many halfwords, the number of the error -/
def DecAt (r : Ins × Int × Int) (w : World) (e : Ending) (w' : World) : Prop :=
  e = .returned (.tuple #[.agg #[.int .i64 r.1.op, .int .i64 r.1.d, .int .i64 r.1.n, .int .i64 r.1.m, .int .i64 r.1.imm, .int .i64 r.1.cond], .int .i64 r.2.1, .int .i64 r.2.2]) ∧ Below w.heap.size w w'
def Zins : Array Value := #[.int .i64 0, .int .i64 0, .int .i64 0, .int .i64 0, .int .i64 0, .int .i64 0]
theorem cell_new {w : World} {o : Obj} {p : Addr} {v : Value} (h : w.cell? p = some v) : (w.alloc o).cell? p = some v := by
  rw [((Below.refl w.heap.size w).alloc (Nat.le_refl _) o).cell (block_lt_of_cell h)]; exact h
set_option maxHeartbeats 2000000 in
theorem decode_nil (A : Option Addr) (c : Nat) (w : World) : Calls Try.prog 53 #[.slice A 0 c] w (DecAt (⟨0, 0, 0, 0, 0, 0⟩, 0, 7) w) := by
  go_enter Try.func53, Try.ntmps53
  go_wp2_with fail
  refine bodyPost_ret (v := .tuple #[.agg #[.int .i64 0, .int .i64 0, .int .i64 0, .int .i64 0, .int .i64 0, .int .i64 0], .int .i64 0, .int .i64 7]) (by rw [results_cell_tmp2 rfl]; go_simp) rfl ?_
  exact ⟨rfl, (Below.refl _ _).alloc (Nat.le_refl _) _⟩
set_option maxHeartbeats 2000000 in
theorem decode_short (g o c : Nat) (a : Int) (w : World) (ca : w.cell? ⟨g, o, none⟩ = some (.int .u16 a)) (h1 : a / 2048 = 30) :
    Calls Try.prog 53 #[.slice (some ⟨g, o, none⟩) 1 c] w (DecAt (⟨0, 0, 0, 0, 0, 0⟩, 0, 7) w) := by
  have ca' : (w.alloc (.cells #[.int .i64 0, .int .i64 0, .int .i64 0, .int .i64 0, .int .i64 0, .int .i64 0] 36)).cell? ⟨g, o, none⟩ = some (.int .u16 a) := cell_new ca
  go_enter Try.func53, Try.ntmps53
  go_wp2_with fail
  refine bodyPost_ret (v := .tuple #[.agg #[.int .i64 0, .int .i64 0, .int .i64 0, .int .i64 0, .int .i64 0, .int .i64 0], .int .i64 0, .int .i64 7]) (by rw [results_cell_tmp2 rfl]; go_simp) rfl ?_
  exact ⟨rfl, (Below.refl _ _).alloc (Nat.le_refl _) _⟩
set_option maxHeartbeats 2000000 in
theorem decode_odd (g o n c : Nat) (a b : Int) (w : World) (hn : 2 ≤ n) (ca : w.cell? ⟨g, o, none⟩ = some (.int .u16 a)) (cb : w.cell? ⟨g, o + 1, none⟩ = some (.int .u16 b)) (h1 : a / 2048 = 30) (h2 : bits .and .u16 b 53248 ≠ 53248) :
    Calls Try.prog 53 #[.slice (some ⟨g, o, none⟩) n c] w (DecAt (⟨0, 0, 0, 0, 0, 0⟩, 0, 8) w) := by
  have ca' : (w.alloc (.cells #[.int .i64 0, .int .i64 0, .int .i64 0, .int .i64 0, .int .i64 0, .int .i64 0] 36)).cell? ⟨g, o, none⟩ = some (.int .u16 a) := cell_new ca
  have cb' : (w.alloc (.cells #[.int .i64 0, .int .i64 0, .int .i64 0, .int .i64 0, .int .i64 0, .int .i64 0] 36)).cell? ⟨g, o + 1, none⟩ = some (.int .u16 b) := cell_new cb
  have hn1 : (0 : Int) < (n : Int) := by omega
  have hn2 : (1 : Int) < (n : Int) := by omega
  go_enter Try.func53, Try.ntmps53
  go_wp2_with fail
  refine bodyPost_ret (v := .tuple #[.agg #[.int .i64 0, .int .i64 0, .int .i64 0, .int .i64 0, .int .i64 0, .int .i64 0], .int .i64 0, .int .i64 8]) (by rw [results_cell_tmp2 rfl]; go_simp) rfl ?_
  exact ⟨rfl, (Below.refl _ _).alloc (Nat.le_refl _) _⟩
set_option maxHeartbeats 2000000 in
theorem decode_bl (g o n c : Nat) (a b : Int) (w : World) (hn : 2 ≤ n) (ca : w.cell? ⟨g, o, none⟩ = some (.int .u16 a)) (cb : w.cell? ⟨g, o + 1, none⟩ = some (.int .u16 b)) (h1 : a / 2048 = 30) (h2 : bits .and .u16 b 53248 = 53248) :
    Calls Try.prog 53 #[.slice (some ⟨g, o, none⟩) n c] w (DecAt (⟨43, 0, 0, 0, farE a b, 0⟩, 2, 0) w) := by
  have ca' : (w.alloc (.cells #[.int .i64 0, .int .i64 0, .int .i64 0, .int .i64 0, .int .i64 0, .int .i64 0] 36)).cell? ⟨g, o, none⟩ = some (.int .u16 a) := cell_new ca
  have cb' : (w.alloc (.cells #[.int .i64 0, .int .i64 0, .int .i64 0, .int .i64 0, .int .i64 0, .int .i64 0] 36)).cell? ⟨g, o + 1, none⟩ = some (.int .u16 b) := cell_new cb
  have hn1 : (0 : Int) < (n : Int) := by omega
  have hn2 : (1 : Int) < (n : Int) := by omega
  go_enter Try.func53, Try.ntmps53
  go_wp2_with fail
  refine (far_c _ _ _).mono ?_
  rintro e w' ⟨rfl, rfl⟩
  go_wp2_with fail
  refine bodyPost_ret (v := .tuple #[.agg #[.int .i64 43, .int .i64 0, .int .i64 0, .int .i64 0, .int .i64 (farE a b), .int .i64 0], .int .i64 2, .int .i64 0]) (by rw [results_cell_tmp2 rfl]; go_simp) rfl ?_
  exact ⟨rfl, (Below.refl _ _).alloc (Nat.le_refl _) _⟩
end Go.Proofs.Ytpihjhfaeloapaa
namespace Go.Proofs.Ytpihjhfaeloapaa
open Go.RowKit On Th

set_option maxHeartbeats 4000000 in
theorem decode_mov (g o n c : Nat) (a : Int) (w : World) (hn : 1 ≤ n) (ca : w.cell? ⟨g, o, none⟩ = some (.int .u16 a)) (_ : a / 2048 ≠ 30) (h2 : a / 256 = 70) (ha : 0 ≤ a) (ha' : a < 65536) :
    Calls Try.prog 53 #[.slice (some ⟨g, o, none⟩) n c] w (DecAt (if rightS (movI a) then (movI a, 1, 0) else (⟨0, 0, 0, 0, 0, 0⟩, 0, 8)) w) := by
  have ca' : (w.alloc (.cells #[.int .i64 0, .int .i64 0, .int .i64 0, .int .i64 0, .int .i64 0, .int .i64 0] 36)).cell? ⟨g, o, none⟩ = some (.int .u16 a) := cell_new ca
  have hn1 : (0 : Int) < (n : Int) := by omega
  have q1 : bits .and .u16 (a / 128) 1 = a / 128 % 2 := u16_m1 (by omega) (by omega)
  have q2 : bits .and .u16 a 7 = a % 8 := u16_m7 ha ha'
  have q3 : bits .and .u16 (a / 8) 15 = a / 8 % 16 := u16_m15 (by omega) (by omega)
  have q4 : bits .or .i64 (a / 128 % 2 * 8) (a % 8) = a / 128 % 2 * 8 + a % 8 := by
    rcases m2 (a / 128) with h | h <;> rw [h] <;> exact i64_join 3 (by decide) (by decide) (by decide) (by omega) (by omega) (by omega)
  have KZ : Blk ((w.alloc (.cells #[.int .i64 0, .int .i64 0, .int .i64 0, .int .i64 0, .int .i64 0, .int .i64 0] 36)).alloc (.cells #[.int .i64 28, .int .i64 (a / 128 % 2 * 8 + a % 8), .int .i64 0, .int .i64 (a / 8 % 16), .int .i64 0, .int .i64 0] 36)) w.heap.size 36 #[.int .i64 0, .int .i64 0, .int .i64 0, .int .i64 0, .int .i64 0, .int .i64 0] := (Blk.new _ _ _).alloc _
  have KI : Blk ((w.alloc (.cells #[.int .i64 0, .int .i64 0, .int .i64 0, .int .i64 0, .int .i64 0, .int .i64 0] 36)).alloc (.cells #[.int .i64 28, .int .i64 (a / 128 % 2 * 8 + a % 8), .int .i64 0, .int .i64 (a / 8 % 16), .int .i64 0, .int .i64 0] 36)) (w.heap.size + 1) 36 #[.int .i64 28, .int .i64 (a / 128 % 2 * 8 + a % 8), .int .i64 0, .int .i64 (a / 8 % 16), .int .i64 0, .int .i64 0] := Blk.new' _ _ _ _ (by simp only [World.size_alloc])
  have HB0 : Hid (Below w.heap.size w ((w.alloc (.cells #[.int .i64 0, .int .i64 0, .int .i64 0, .int .i64 0, .int .i64 0, .int .i64 0] 36)).alloc (.cells #[.int .i64 28, .int .i64 (a / 128 % 2 * 8 + a % 8), .int .i64 0, .int .i64 (a / 8 % 16), .int .i64 0, .int .i64 0] 36))) := ((Below.refl _ _).alloc (Nat.le_refl _) _).alloc (by simp) _
  have KZ := Lib.hid KZ
  have KI := Lib.hid KI
  cases hr : rightS (movI a)
  · rw [if_neg (by simp)]
    have HR := Lib.hid hr
    clear hr
    go_enter Try.func53, Try.ntmps53
    go_wp2_with fail
    refine (right_c (movI a) _).mono ?_
    rintro e w2 ⟨rfl, hb⟩
    rw [HR.out]
    have k2 := KZ.out.only (S := fun _ => False) (Only.of_below hb) id
    have z0 : w2.cell? ⟨w.heap.size, 0, none⟩ = some (.int .i64 0) := k2.cell 0
    have z1 : w2.cell? ⟨w.heap.size, 1, none⟩ = some (.int .i64 0) := k2.cell 1
    have z2 : w2.cell? ⟨w.heap.size, 2, none⟩ = some (.int .i64 0) := k2.cell 2
    have z3 : w2.cell? ⟨w.heap.size, 3, none⟩ = some (.int .i64 0) := k2.cell 3
    have z4 : w2.cell? ⟨w.heap.size, 4, none⟩ = some (.int .i64 0) := k2.cell 4
    have z5 : w2.cell? ⟨w.heap.size, 5, none⟩ = some (.int .i64 0) := k2.cell 5
    have f0 : w2.frozen? ⟨w.heap.size, 0, none⟩ = false := k2.frozen 0
    have f1 : w2.frozen? ⟨w.heap.size, 1, none⟩ = false := k2.frozen 1
    have f2 : w2.frozen? ⟨w.heap.size, 2, none⟩ = false := k2.frozen 2
    have f3 : w2.frozen? ⟨w.heap.size, 3, none⟩ = false := k2.frozen 3
    have f4 : w2.frozen? ⟨w.heap.size, 4, none⟩ = false := k2.frozen 4
    have f5 : w2.frozen? ⟨w.heap.size, 5, none⟩ = false := k2.frozen 5
    have KZ2 := Lib.hid k2
    have HB2 := Lib.hid (HB0.out.trans (hb.mono HB0.out.size))
    clear k2 hb
    go_wp2_with fail
    have KE : Blk ((((((w2.setCell ⟨w.heap.size, 0, none⟩ (.int .i64 0)).setCell ⟨w.heap.size, 1, none⟩ (.int .i64 0)).setCell ⟨w.heap.size, 2, none⟩ (.int .i64 0)).setCell ⟨w.heap.size, 3, none⟩ (.int .i64 0)).setCell ⟨w.heap.size, 4, none⟩ (.int .i64 0)).setCell ⟨w.heap.size, 5, none⟩ (.int .i64 0)) w.heap.size 36 #[.int .i64 0, .int .i64 0, .int .i64 0, .int .i64 0, .int .i64 0, .int .i64 0] := ((((((((((((KZ2.out).set 0 _)).set 1 _)).set 2 _)).set 3 _)).set 4 _)).set 5 _)
    have ke := Blk.six KE
    have HE := Lib.hid ((((((((((((HB2.out).setCell (p := ⟨w.heap.size, 0, none⟩) (Nat.le_refl _) (.int .i64 0))).setCell (p := ⟨w.heap.size, 1, none⟩) (Nat.le_refl _) (.int .i64 0))).setCell (p := ⟨w.heap.size, 2, none⟩) (Nat.le_refl _) (.int .i64 0))).setCell (p := ⟨w.heap.size, 3, none⟩) (Nat.le_refl _) (.int .i64 0))).setCell (p := ⟨w.heap.size, 4, none⟩) (Nat.le_refl _) (.int .i64 0))).setCell (p := ⟨w.heap.size, 5, none⟩) (Nat.le_refl _) (.int .i64 0))
    clear z0 f0 z1 f1 z2 f2 z3 f3 z4 f4 z5 f5 KE
    go_wp2_with fail
    refine bodyPost_ret (v := .tuple #[.agg #[.int .i64 0, .int .i64 0, .int .i64 0, .int .i64 0, .int .i64 0, .int .i64 0], .int .i64 0, .int .i64 8]) (by rw [results_cell_tmp2 rfl]; go_simp) rfl ?_
    exact ⟨rfl, HE.out⟩
  · rw [if_pos rfl]
    have HR := Lib.hid hr
    clear hr
    go_enter Try.func53, Try.ntmps53
    go_wp2_with fail
    refine (right_c (movI a) _).mono ?_
    rintro e w2 ⟨rfl, hb⟩
    rw [HR.out]
    have k2 := KZ.out.only (S := fun _ => False) (Only.of_below hb) id
    have z0 : w2.cell? ⟨w.heap.size, 0, none⟩ = some (.int .i64 0) := k2.cell 0
    have z1 : w2.cell? ⟨w.heap.size, 1, none⟩ = some (.int .i64 0) := k2.cell 1
    have z2 : w2.cell? ⟨w.heap.size, 2, none⟩ = some (.int .i64 0) := k2.cell 2
    have z3 : w2.cell? ⟨w.heap.size, 3, none⟩ = some (.int .i64 0) := k2.cell 3
    have z4 : w2.cell? ⟨w.heap.size, 4, none⟩ = some (.int .i64 0) := k2.cell 4
    have z5 : w2.cell? ⟨w.heap.size, 5, none⟩ = some (.int .i64 0) := k2.cell 5
    have f0 : w2.frozen? ⟨w.heap.size, 0, none⟩ = false := k2.frozen 0
    have f1 : w2.frozen? ⟨w.heap.size, 1, none⟩ = false := k2.frozen 1
    have f2 : w2.frozen? ⟨w.heap.size, 2, none⟩ = false := k2.frozen 2
    have f3 : w2.frozen? ⟨w.heap.size, 3, none⟩ = false := k2.frozen 3
    have f4 : w2.frozen? ⟨w.heap.size, 4, none⟩ = false := k2.frozen 4
    have f5 : w2.frozen? ⟨w.heap.size, 5, none⟩ = false := k2.frozen 5
    have KZ2 := Lib.hid k2
    have HB2 := Lib.hid (HB0.out.trans (hb.mono HB0.out.size))
    have ki := Blk.six (KI.out.only (S := fun _ => False) (Only.of_below hb) id)
    clear k2 hb
    go_wp2_with fail
    have KE : Blk ((((((w2.setCell ⟨w.heap.size, 0, none⟩ (.int .i64 28)).setCell ⟨w.heap.size, 1, none⟩ (.int .i64 (a / 128 % 2 * 8 + a % 8))).setCell ⟨w.heap.size, 2, none⟩ (.int .i64 0)).setCell ⟨w.heap.size, 3, none⟩ (.int .i64 (a / 8 % 16))).setCell ⟨w.heap.size, 4, none⟩ (.int .i64 0)).setCell ⟨w.heap.size, 5, none⟩ (.int .i64 0)) w.heap.size 36 #[.int .i64 28, .int .i64 (a / 128 % 2 * 8 + a % 8), .int .i64 0, .int .i64 (a / 8 % 16), .int .i64 0, .int .i64 0] := ((((((((((((KZ2.out).set 0 _)).set 1 _)).set 2 _)).set 3 _)).set 4 _)).set 5 _)
    have ke := Blk.six KE
    have HE := Lib.hid ((((((((((((HB2.out).setCell (p := ⟨w.heap.size, 0, none⟩) (Nat.le_refl _) (.int .i64 28))).setCell (p := ⟨w.heap.size, 1, none⟩) (Nat.le_refl _) (.int .i64 (a / 128 % 2 * 8 + a % 8)))).setCell (p := ⟨w.heap.size, 2, none⟩) (Nat.le_refl _) (.int .i64 0))).setCell (p := ⟨w.heap.size, 3, none⟩) (Nat.le_refl _) (.int .i64 (a / 8 % 16)))).setCell (p := ⟨w.heap.size, 4, none⟩) (Nat.le_refl _) (.int .i64 0))).setCell (p := ⟨w.heap.size, 5, none⟩) (Nat.le_refl _) (.int .i64 0))
    clear z0 f0 z1 f1 z2 f2 z3 f3 z4 f4 z5 f5 KE
    go_wp2_with fail
    refine bodyPost_ret (v := .tuple #[.agg #[.int .i64 28, .int .i64 (a / 128 % 2 * 8 + a % 8), .int .i64 0, .int .i64 (a / 8 % 16), .int .i64 0, .int .i64 0], .int .i64 1, .int .i64 0]) (by rw [results_cell_tmp2 rfl]; go_simp) rfl ?_
    exact ⟨rfl, HE.out⟩
set_option maxHeartbeats 4000000 in
theorem decode_no (g o n c : Nat) (a o' b : Int) (l : List Sl) (w : World) (hn : 1 ≤ n) (ca : w.cell? ⟨g, o, none⟩ = some (.int .u16 a)) (h1 : a / 2048 ≠ 30) (h2 : a / 256 ≠ 70) (ha : 0 ≤ a) (ha' : a < 65536) (hf : ∀ w, Calls Try.prog 72 #[.int .i64 (opS a)] w (RowAt l o' b false w)) :
    Calls Try.prog 53 #[.slice (some ⟨g, o, none⟩) n c] w (DecAt (⟨0, 0, 0, 0, 0, 0⟩, 0, 8) w) := by
  have ca' : (w.alloc (.cells #[.int .i64 0, .int .i64 0, .int .i64 0, .int .i64 0, .int .i64 0, .int .i64 0] 36)).cell? ⟨g, o, none⟩ = some (.int .u16 a) := cell_new ca
  have hn1 : (0 : Int) < (n : Int) := by omega
  have HF := Lib.hid hf
  have b1 : (a / 2048 == 30) = false := by simpa using h1
  have b2 : (a / 256 == 70) = false := by simpa using h2
  clear hf h1 h2
  have KZ : Hid (Blk (w.alloc (.cells #[.int .i64 0, .int .i64 0, .int .i64 0, .int .i64 0, .int .i64 0, .int .i64 0] 36)) w.heap.size 36 #[.int .i64 0, .int .i64 0, .int .i64 0, .int .i64 0, .int .i64 0, .int .i64 0]) := Blk.new _ _ _
  have HB0 : Hid (Below w.heap.size w (w.alloc (.cells #[.int .i64 0, .int .i64 0, .int .i64 0, .int .i64 0, .int .i64 0, .int .i64 0] 36))) := (Below.refl _ _).alloc (Nat.le_refl _) _
  go_enter Try.func53, Try.ntmps53
  go_wp2_with fail
  refine (op_c a _ ha ha').mono ?_
  rintro e w' ⟨rfl, rfl⟩
  go_wp2_with fail
  refine (HF.out _).mono ?_
  rintro e w2 ⟨A, rfl, hs, hb⟩
  have KZ2 := Lib.hid ((KZ.out.only (S := fun _ => False) (Only.of_below hb) id).alloc (.cells #[.int .i64 o', .int .u16 b, .slice A l.length l.length] 123))
  have HB2 := Lib.hid ((HB0.out.trans (hb.mono HB0.out.size)).alloc (by have := HB0.out.size; have := hb.size; omega) (.cells #[.int .i64 o', .int .u16 b, .slice A l.length l.length] 123))
  have HS2 := Lib.hid (hs.below ((Below.refl _ _).alloc (Nat.le_refl _) (.cells #[.int .i64 o', .int .u16 b, .slice A l.length l.length] 123)))
  clear hs hb
  have z0 : (w2.alloc (.cells #[.int .i64 o', .int .u16 b, .slice A l.length l.length] 123)).cell? ⟨w.heap.size, 0, none⟩ = some (.int .i64 0) := KZ2.out.cell 0
  have z1 : (w2.alloc (.cells #[.int .i64 o', .int .u16 b, .slice A l.length l.length] 123)).cell? ⟨w.heap.size, 1, none⟩ = some (.int .i64 0) := KZ2.out.cell 1
  have z2 : (w2.alloc (.cells #[.int .i64 o', .int .u16 b, .slice A l.length l.length] 123)).cell? ⟨w.heap.size, 2, none⟩ = some (.int .i64 0) := KZ2.out.cell 2
  have z3 : (w2.alloc (.cells #[.int .i64 o', .int .u16 b, .slice A l.length l.length] 123)).cell? ⟨w.heap.size, 3, none⟩ = some (.int .i64 0) := KZ2.out.cell 3
  have z4 : (w2.alloc (.cells #[.int .i64 o', .int .u16 b, .slice A l.length l.length] 123)).cell? ⟨w.heap.size, 4, none⟩ = some (.int .i64 0) := KZ2.out.cell 4
  have z5 : (w2.alloc (.cells #[.int .i64 o', .int .u16 b, .slice A l.length l.length] 123)).cell? ⟨w.heap.size, 5, none⟩ = some (.int .i64 0) := KZ2.out.cell 5
  have f0 : (w2.alloc (.cells #[.int .i64 o', .int .u16 b, .slice A l.length l.length] 123)).frozen? ⟨w.heap.size, 0, none⟩ = false := KZ2.out.frozen 0
  have f1 : (w2.alloc (.cells #[.int .i64 o', .int .u16 b, .slice A l.length l.length] 123)).frozen? ⟨w.heap.size, 1, none⟩ = false := KZ2.out.frozen 1
  have f2 : (w2.alloc (.cells #[.int .i64 o', .int .u16 b, .slice A l.length l.length] 123)).frozen? ⟨w.heap.size, 2, none⟩ = false := KZ2.out.frozen 2
  have f3 : (w2.alloc (.cells #[.int .i64 o', .int .u16 b, .slice A l.length l.length] 123)).frozen? ⟨w.heap.size, 3, none⟩ = false := KZ2.out.frozen 3
  have f4 : (w2.alloc (.cells #[.int .i64 o', .int .u16 b, .slice A l.length l.length] 123)).frozen? ⟨w.heap.size, 4, none⟩ = false := KZ2.out.frozen 4
  have f5 : (w2.alloc (.cells #[.int .i64 o', .int .u16 b, .slice A l.length l.length] 123)).frozen? ⟨w.heap.size, 5, none⟩ = false := KZ2.out.frozen 5
  go_wp2_with fail
  have KE : Blk (((((((w2.alloc (.cells #[.int .i64 o', .int .u16 b, .slice A l.length l.length] 123)).setCell ⟨w.heap.size, 0, none⟩ (.int .i64 0)).setCell ⟨w.heap.size, 1, none⟩ (.int .i64 0)).setCell ⟨w.heap.size, 2, none⟩ (.int .i64 0)).setCell ⟨w.heap.size, 3, none⟩ (.int .i64 0)).setCell ⟨w.heap.size, 4, none⟩ (.int .i64 0)).setCell ⟨w.heap.size, 5, none⟩ (.int .i64 0)) w.heap.size 36 #[.int .i64 0, .int .i64 0, .int .i64 0, .int .i64 0, .int .i64 0, .int .i64 0] := ((((((((((((KZ2.out).set 0 _)).set 1 _)).set 2 _)).set 3 _)).set 4 _)).set 5 _)
  have ke := Blk.six KE
  have HE := Lib.hid ((((((((((((HB2.out).setCell (p := ⟨w.heap.size, 0, none⟩) (Nat.le_refl _) (.int .i64 0))).setCell (p := ⟨w.heap.size, 1, none⟩) (Nat.le_refl _) (.int .i64 0))).setCell (p := ⟨w.heap.size, 2, none⟩) (Nat.le_refl _) (.int .i64 0))).setCell (p := ⟨w.heap.size, 3, none⟩) (Nat.le_refl _) (.int .i64 0))).setCell (p := ⟨w.heap.size, 4, none⟩) (Nat.le_refl _) (.int .i64 0))).setCell (p := ⟨w.heap.size, 5, none⟩) (Nat.le_refl _) (.int .i64 0))
  clear z0 f0 z1 f1 z2 f2 z3 f3 z4 f4 z5 f5 KE
  go_wp2_with fail
  refine bodyPost_ret (v := .tuple #[.agg #[.int .i64 0, .int .i64 0, .int .i64 0, .int .i64 0, .int .i64 0, .int .i64 0], .int .i64 0, .int .i64 8]) (by rw [results_cell_tmp2 rfl]; go_simp) rfl ?_
  exact ⟨rfl, HE.out⟩
set_option maxHeartbeats 4000000 in
theorem decode_row (g o n c : Nat) (a o' b : Int) (l : List Sl) (w : World) (hn : 1 ≤ n) (ca : w.cell? ⟨g, o, none⟩ = some (.int .u16 a)) (h1 : a / 2048 ≠ 30) (h2 : a / 256 ≠ 70) (ha : 0 ≤ a) (ha' : a < 65536) (hf : ∀ w, Calls Try.prog 72 #[.int .i64 (opS a)] w (RowAt l o' b true w)) (hst : ∀ s ∈ l, s.step ≠ 0 ∧ 0 ≤ s.bits ∧ s.bits < 16 ∧ 0 ≤ s.shift ∧ s.shift < 16) (hlen : l.length ≤ 5) :
    Calls Try.prog 53 #[.slice (some ⟨g, o, none⟩) n c] w (DecAt (if ((readUp o' a l l.length).2 == b) && rightS (readUp o' a l l.length).1 then ((readUp o' a l l.length).1, 1, 0) else (⟨0, 0, 0, 0, 0, 0⟩, 0, 8)) w) := by
  have HST := Lib.hid hst
  clear hst
  have HU : Hid (∃ st, readUp o' a l l.length = st) := ⟨_, rfl⟩
  obtain ⟨st, hst⟩ := HU.out
  have HW := Lib.hid hst
  rw [hst]
  clear hst HU
  obtain ⟨⟨so, sd, sn, sm, si, sc⟩, rest⟩ := st
  dsimp only
  cases hk : ((rest == b) && rightS ⟨so, sd, sn, sm, si, sc⟩)
  · rw [if_neg (by simp)]
    have HK := Lib.hid hk
    clear hk
    have ca' : (w.alloc (.cells #[.int .i64 0, .int .i64 0, .int .i64 0, .int .i64 0, .int .i64 0, .int .i64 0] 36)).cell? ⟨g, o, none⟩ = some (.int .u16 a) := cell_new ca
    have hn1 : (0 : Int) < (n : Int) := by omega
    have HF := Lib.hid hf
    have b1 : (a / 2048 == 30) = false := by simpa using h1
    have b2 : (a / 256 == 70) = false := by simpa using h2
    clear hf h1 h2
    have KZ : Hid (Blk (w.alloc (.cells #[.int .i64 0, .int .i64 0, .int .i64 0, .int .i64 0, .int .i64 0, .int .i64 0] 36)) w.heap.size 36 #[.int .i64 0, .int .i64 0, .int .i64 0, .int .i64 0, .int .i64 0, .int .i64 0]) := Blk.new _ _ _
    have HB0 : Hid (Below w.heap.size w (w.alloc (.cells #[.int .i64 0, .int .i64 0, .int .i64 0, .int .i64 0, .int .i64 0, .int .i64 0] 36))) := (Below.refl _ _).alloc (Nat.le_refl _) _
    go_enter Try.func53, Try.ntmps53
    go_wp2_with fail
    refine (op_c a _ ha ha').mono ?_
    rintro e w' ⟨rfl, rfl⟩
    go_wp2_with fail
    refine (HF.out _).mono ?_
    rintro e w2 ⟨A, rfl, hs, hb⟩
    have KZ2 := Lib.hid ((KZ.out.only (S := fun _ => False) (Only.of_below hb) id).alloc (.cells #[.int .i64 o', .int .u16 b, .slice A l.length l.length] 123))
    have HB2 := Lib.hid ((HB0.out.trans (hb.mono HB0.out.size)).alloc (by have := HB0.out.size; have := hb.size; omega) (.cells #[.int .i64 o', .int .u16 b, .slice A l.length l.length] 123))
    have HS2 := Lib.hid (hs.below ((Below.refl _ _).alloc (Nat.le_refl _) (.cells #[.int .i64 o', .int .u16 b, .slice A l.length l.length] 123)))
    clear hs hb
    have kr := (Blk.new w2 123 #[.int .i64 o', .int .u16 b, .slice A l.length l.length])
    have r0 := kr.cell 0
    have r1 := kr.cell 1
    have r2 := kr.cell 2
    simp at r0 r1 r2
    clear kr
    go_wp2_with fail
    refine (read_c o' b a l A _ HS2.out HST.out hlen ha ha').mono ?_
    rintro e w3 ⟨rfl, hb⟩
    rw [HW.out]
    dsimp only [Ins.cells]
    rw [HK.out]
    have KZ3 := Lib.hid ((KZ2.out.only (S := fun _ => False) (Only.of_below hb) id).alloc (.cells #[.int .i64 so, .int .i64 sd, .int .i64 sn, .int .i64 sm, .int .i64 si, .int .i64 sc] 36))
    have HB3 := Lib.hid ((HB2.out.trans (hb.mono HB2.out.size)).alloc (by have := HB2.out.size; have := hb.size; omega) (.cells #[.int .i64 so, .int .i64 sd, .int .i64 sn, .int .i64 sm, .int .i64 si, .int .i64 sc] 36))
    clear hb
    have z0 : (w3.alloc (.cells #[.int .i64 so, .int .i64 sd, .int .i64 sn, .int .i64 sm, .int .i64 si, .int .i64 sc] 36)).cell? ⟨w.heap.size, 0, none⟩ = some (.int .i64 0) := KZ3.out.cell 0
    have z1 : (w3.alloc (.cells #[.int .i64 so, .int .i64 sd, .int .i64 sn, .int .i64 sm, .int .i64 si, .int .i64 sc] 36)).cell? ⟨w.heap.size, 1, none⟩ = some (.int .i64 0) := KZ3.out.cell 1
    have z2 : (w3.alloc (.cells #[.int .i64 so, .int .i64 sd, .int .i64 sn, .int .i64 sm, .int .i64 si, .int .i64 sc] 36)).cell? ⟨w.heap.size, 2, none⟩ = some (.int .i64 0) := KZ3.out.cell 2
    have z3 : (w3.alloc (.cells #[.int .i64 so, .int .i64 sd, .int .i64 sn, .int .i64 sm, .int .i64 si, .int .i64 sc] 36)).cell? ⟨w.heap.size, 3, none⟩ = some (.int .i64 0) := KZ3.out.cell 3
    have z4 : (w3.alloc (.cells #[.int .i64 so, .int .i64 sd, .int .i64 sn, .int .i64 sm, .int .i64 si, .int .i64 sc] 36)).cell? ⟨w.heap.size, 4, none⟩ = some (.int .i64 0) := KZ3.out.cell 4
    have z5 : (w3.alloc (.cells #[.int .i64 so, .int .i64 sd, .int .i64 sn, .int .i64 sm, .int .i64 si, .int .i64 sc] 36)).cell? ⟨w.heap.size, 5, none⟩ = some (.int .i64 0) := KZ3.out.cell 5
    have f0 : (w3.alloc (.cells #[.int .i64 so, .int .i64 sd, .int .i64 sn, .int .i64 sm, .int .i64 si, .int .i64 sc] 36)).frozen? ⟨w.heap.size, 0, none⟩ = false := KZ3.out.frozen 0
    have f1 : (w3.alloc (.cells #[.int .i64 so, .int .i64 sd, .int .i64 sn, .int .i64 sm, .int .i64 si, .int .i64 sc] 36)).frozen? ⟨w.heap.size, 1, none⟩ = false := KZ3.out.frozen 1
    have f2 : (w3.alloc (.cells #[.int .i64 so, .int .i64 sd, .int .i64 sn, .int .i64 sm, .int .i64 si, .int .i64 sc] 36)).frozen? ⟨w.heap.size, 2, none⟩ = false := KZ3.out.frozen 2
    have f3 : (w3.alloc (.cells #[.int .i64 so, .int .i64 sd, .int .i64 sn, .int .i64 sm, .int .i64 si, .int .i64 sc] 36)).frozen? ⟨w.heap.size, 3, none⟩ = false := KZ3.out.frozen 3
    have f4 : (w3.alloc (.cells #[.int .i64 so, .int .i64 sd, .int .i64 sn, .int .i64 sm, .int .i64 si, .int .i64 sc] 36)).frozen? ⟨w.heap.size, 4, none⟩ = false := KZ3.out.frozen 4
    have f5 : (w3.alloc (.cells #[.int .i64 so, .int .i64 sd, .int .i64 sn, .int .i64 sm, .int .i64 si, .int .i64 sc] 36)).frozen? ⟨w.heap.size, 5, none⟩ = false := KZ3.out.frozen 5
    go_wp2_with fail
    have KE : Blk (((((((w3.alloc (.cells #[.int .i64 so, .int .i64 sd, .int .i64 sn, .int .i64 sm, .int .i64 si, .int .i64 sc] 36)).setCell ⟨w.heap.size, 0, none⟩ (.int .i64 0)).setCell ⟨w.heap.size, 1, none⟩ (.int .i64 0)).setCell ⟨w.heap.size, 2, none⟩ (.int .i64 0)).setCell ⟨w.heap.size, 3, none⟩ (.int .i64 0)).setCell ⟨w.heap.size, 4, none⟩ (.int .i64 0)).setCell ⟨w.heap.size, 5, none⟩ (.int .i64 0)) w.heap.size 36 #[.int .i64 0, .int .i64 0, .int .i64 0, .int .i64 0, .int .i64 0, .int .i64 0] := ((((((((((((KZ3.out).set 0 _)).set 1 _)).set 2 _)).set 3 _)).set 4 _)).set 5 _)
    have ke := Blk.six KE
    have HE := Lib.hid ((((((((((((HB3.out).setCell (p := ⟨w.heap.size, 0, none⟩) (Nat.le_refl _) (.int .i64 0))).setCell (p := ⟨w.heap.size, 1, none⟩) (Nat.le_refl _) (.int .i64 0))).setCell (p := ⟨w.heap.size, 2, none⟩) (Nat.le_refl _) (.int .i64 0))).setCell (p := ⟨w.heap.size, 3, none⟩) (Nat.le_refl _) (.int .i64 0))).setCell (p := ⟨w.heap.size, 4, none⟩) (Nat.le_refl _) (.int .i64 0))).setCell (p := ⟨w.heap.size, 5, none⟩) (Nat.le_refl _) (.int .i64 0))
    clear z0 f0 z1 f1 z2 f2 z3 f3 z4 f4 z5 f5 KE
    go_wp2_with fail
    refine bodyPost_ret (v := .tuple #[.agg #[.int .i64 0, .int .i64 0, .int .i64 0, .int .i64 0, .int .i64 0, .int .i64 0], .int .i64 0, .int .i64 8]) (by rw [results_cell_tmp2 rfl]; go_simp) rfl ?_
    exact ⟨rfl, HE.out⟩
  · rw [if_pos rfl]
    have HK := Lib.hid hk
    clear hk
    have ca' : (w.alloc (.cells #[.int .i64 0, .int .i64 0, .int .i64 0, .int .i64 0, .int .i64 0, .int .i64 0] 36)).cell? ⟨g, o, none⟩ = some (.int .u16 a) := cell_new ca
    have hn1 : (0 : Int) < (n : Int) := by omega
    have HF := Lib.hid hf
    have b1 : (a / 2048 == 30) = false := by simpa using h1
    have b2 : (a / 256 == 70) = false := by simpa using h2
    clear hf h1 h2
    have KZ : Hid (Blk (w.alloc (.cells #[.int .i64 0, .int .i64 0, .int .i64 0, .int .i64 0, .int .i64 0, .int .i64 0] 36)) w.heap.size 36 #[.int .i64 0, .int .i64 0, .int .i64 0, .int .i64 0, .int .i64 0, .int .i64 0]) := Blk.new _ _ _
    have HB0 : Hid (Below w.heap.size w (w.alloc (.cells #[.int .i64 0, .int .i64 0, .int .i64 0, .int .i64 0, .int .i64 0, .int .i64 0] 36))) := (Below.refl _ _).alloc (Nat.le_refl _) _
    go_enter Try.func53, Try.ntmps53
    go_wp2_with fail
    refine (op_c a _ ha ha').mono ?_
    rintro e w' ⟨rfl, rfl⟩
    go_wp2_with fail
    refine (HF.out _).mono ?_
    rintro e w2 ⟨A, rfl, hs, hb⟩
    have KZ2 := Lib.hid ((KZ.out.only (S := fun _ => False) (Only.of_below hb) id).alloc (.cells #[.int .i64 o', .int .u16 b, .slice A l.length l.length] 123))
    have HB2 := Lib.hid ((HB0.out.trans (hb.mono HB0.out.size)).alloc (by have := HB0.out.size; have := hb.size; omega) (.cells #[.int .i64 o', .int .u16 b, .slice A l.length l.length] 123))
    have HS2 := Lib.hid (hs.below ((Below.refl _ _).alloc (Nat.le_refl _) (.cells #[.int .i64 o', .int .u16 b, .slice A l.length l.length] 123)))
    clear hs hb
    have kr := (Blk.new w2 123 #[.int .i64 o', .int .u16 b, .slice A l.length l.length])
    have r0 := kr.cell 0
    have r1 := kr.cell 1
    have r2 := kr.cell 2
    simp at r0 r1 r2
    clear kr
    go_wp2_with fail
    refine (read_c o' b a l A _ HS2.out HST.out hlen ha ha').mono ?_
    rintro e w3 ⟨rfl, hb⟩
    rw [HW.out]
    dsimp only [Ins.cells]
    rw [HK.out]
    have KZ3 := Lib.hid ((KZ2.out.only (S := fun _ => False) (Only.of_below hb) id).alloc (.cells #[.int .i64 so, .int .i64 sd, .int .i64 sn, .int .i64 sm, .int .i64 si, .int .i64 sc] 36))
    have HB3 := Lib.hid ((HB2.out.trans (hb.mono HB2.out.size)).alloc (by have := HB2.out.size; have := hb.size; omega) (.cells #[.int .i64 so, .int .i64 sd, .int .i64 sn, .int .i64 sm, .int .i64 si, .int .i64 sc] 36))
    clear hb
    have z0 : (w3.alloc (.cells #[.int .i64 so, .int .i64 sd, .int .i64 sn, .int .i64 sm, .int .i64 si, .int .i64 sc] 36)).cell? ⟨w.heap.size, 0, none⟩ = some (.int .i64 0) := KZ3.out.cell 0
    have z1 : (w3.alloc (.cells #[.int .i64 so, .int .i64 sd, .int .i64 sn, .int .i64 sm, .int .i64 si, .int .i64 sc] 36)).cell? ⟨w.heap.size, 1, none⟩ = some (.int .i64 0) := KZ3.out.cell 1
    have z2 : (w3.alloc (.cells #[.int .i64 so, .int .i64 sd, .int .i64 sn, .int .i64 sm, .int .i64 si, .int .i64 sc] 36)).cell? ⟨w.heap.size, 2, none⟩ = some (.int .i64 0) := KZ3.out.cell 2
    have z3 : (w3.alloc (.cells #[.int .i64 so, .int .i64 sd, .int .i64 sn, .int .i64 sm, .int .i64 si, .int .i64 sc] 36)).cell? ⟨w.heap.size, 3, none⟩ = some (.int .i64 0) := KZ3.out.cell 3
    have z4 : (w3.alloc (.cells #[.int .i64 so, .int .i64 sd, .int .i64 sn, .int .i64 sm, .int .i64 si, .int .i64 sc] 36)).cell? ⟨w.heap.size, 4, none⟩ = some (.int .i64 0) := KZ3.out.cell 4
    have z5 : (w3.alloc (.cells #[.int .i64 so, .int .i64 sd, .int .i64 sn, .int .i64 sm, .int .i64 si, .int .i64 sc] 36)).cell? ⟨w.heap.size, 5, none⟩ = some (.int .i64 0) := KZ3.out.cell 5
    have f0 : (w3.alloc (.cells #[.int .i64 so, .int .i64 sd, .int .i64 sn, .int .i64 sm, .int .i64 si, .int .i64 sc] 36)).frozen? ⟨w.heap.size, 0, none⟩ = false := KZ3.out.frozen 0
    have f1 : (w3.alloc (.cells #[.int .i64 so, .int .i64 sd, .int .i64 sn, .int .i64 sm, .int .i64 si, .int .i64 sc] 36)).frozen? ⟨w.heap.size, 1, none⟩ = false := KZ3.out.frozen 1
    have f2 : (w3.alloc (.cells #[.int .i64 so, .int .i64 sd, .int .i64 sn, .int .i64 sm, .int .i64 si, .int .i64 sc] 36)).frozen? ⟨w.heap.size, 2, none⟩ = false := KZ3.out.frozen 2
    have f3 : (w3.alloc (.cells #[.int .i64 so, .int .i64 sd, .int .i64 sn, .int .i64 sm, .int .i64 si, .int .i64 sc] 36)).frozen? ⟨w.heap.size, 3, none⟩ = false := KZ3.out.frozen 3
    have f4 : (w3.alloc (.cells #[.int .i64 so, .int .i64 sd, .int .i64 sn, .int .i64 sm, .int .i64 si, .int .i64 sc] 36)).frozen? ⟨w.heap.size, 4, none⟩ = false := KZ3.out.frozen 4
    have f5 : (w3.alloc (.cells #[.int .i64 so, .int .i64 sd, .int .i64 sn, .int .i64 sm, .int .i64 si, .int .i64 sc] 36)).frozen? ⟨w.heap.size, 5, none⟩ = false := KZ3.out.frozen 5
    have ki := Blk.six (Blk.new w3 36 #[.int .i64 so, .int .i64 sd, .int .i64 sn, .int .i64 sm, .int .i64 si, .int .i64 sc])
    go_wp2_with fail
    have KE : Blk (((((((w3.alloc (.cells #[.int .i64 so, .int .i64 sd, .int .i64 sn, .int .i64 sm, .int .i64 si, .int .i64 sc] 36)).setCell ⟨w.heap.size, 0, none⟩ (.int .i64 so)).setCell ⟨w.heap.size, 1, none⟩ (.int .i64 sd)).setCell ⟨w.heap.size, 2, none⟩ (.int .i64 sn)).setCell ⟨w.heap.size, 3, none⟩ (.int .i64 sm)).setCell ⟨w.heap.size, 4, none⟩ (.int .i64 si)).setCell ⟨w.heap.size, 5, none⟩ (.int .i64 sc)) w.heap.size 36 #[.int .i64 so, .int .i64 sd, .int .i64 sn, .int .i64 sm, .int .i64 si, .int .i64 sc] := ((((((((((((KZ3.out).set 0 _)).set 1 _)).set 2 _)).set 3 _)).set 4 _)).set 5 _)
    have ke := Blk.six KE
    have HE := Lib.hid ((((((((((((HB3.out).setCell (p := ⟨w.heap.size, 0, none⟩) (Nat.le_refl _) (.int .i64 so))).setCell (p := ⟨w.heap.size, 1, none⟩) (Nat.le_refl _) (.int .i64 sd))).setCell (p := ⟨w.heap.size, 2, none⟩) (Nat.le_refl _) (.int .i64 sn))).setCell (p := ⟨w.heap.size, 3, none⟩) (Nat.le_refl _) (.int .i64 sm))).setCell (p := ⟨w.heap.size, 4, none⟩) (Nat.le_refl _) (.int .i64 si))).setCell (p := ⟨w.heap.size, 5, none⟩) (Nat.le_refl _) (.int .i64 sc))
    clear z0 f0 z1 f1 z2 f2 z3 f3 z4 f4 z5 f5 KE
    go_wp2_with fail
    refine bodyPost_ret (v := .tuple #[.agg #[.int .i64 so, .int .i64 sd, .int .i64 sn, .int .i64 sm, .int .i64 si, .int .i64 sc], .int .i64 1, .int .i64 0]) (by rw [results_cell_tmp2 rfl]; go_simp) rfl ?_
    exact ⟨rfl, HE.out⟩
end Go.Proofs.Ytpihjhfaeloapaa
namespace Go.Proofs.Ytpihjhfaeloapaa
open Go.RowKit On Th
/-- halfwords that a slice holds -/
def Hw (w : World) (s : Value) (hs : List Int) : Prop :=
  ∃ A c, s = .slice A hs.length c ∧ ∀ (k : Nat) x, hs[k]? = some x → 0 ≤ x ∧ x < 65536 ∧ ∃ g o, A = some ⟨g, o, none⟩ ∧ w.cell? ⟨g, o + k, none⟩ = some (.int .u16 x)
theorem decode_c {s : Value} {hs : List Int} {w : World} (h : Hw w s hs) : Calls Try.prog 53 #[s] w (DecAt (decS hs) w) := by
  obtain ⟨A, c, rfl, hk⟩ := h
  cases hs with
  | nil => exact decode_nil A c w
  | cons a t =>
    obtain ⟨ha, ha', g, o, rfl, ca⟩ := hk 0 a rfl
    simp at ca
    unfold decS
    dsimp only
    by_cases h1 : a / 2048 = 30
    · rw [if_pos h1]
      cases t with
      | nil => exact decode_short g o c a w ca h1
      | cons b t =>
        obtain ⟨hb, hb', g', o', e, cb⟩ := hk 1 b rfl
        obtain ⟨rfl, rfl⟩ : g = g' ∧ o = o' := by simpa using e
        dsimp only
        by_cases h2 : bits .and .u16 b 53248 = 53248
        · rw [if_pos h2]
          have := decode_bl g o (a :: b :: t).length c a b w (by simp) ca cb h1 h2
          rw [farE_eq a b ha ha' hb hb'] at this
          exact this
        · rw [if_neg h2]; exact decode_odd g o _ c a b w (by simp) ca cb h1 h2
    · rw [if_neg h1]
      by_cases h2 : a / 256 = 70
      · rw [if_pos h2]; exact decode_mov g o _ c a w (by simp) ca h1 h2 ha ha'
      · rw [if_neg h2]
        cases hr : rowOf (opS a) with
        | none => exact decode_no g o _ c a 0 0 [] w (by simp) ca h1 h2 ha ha' (fun w => (find_c (opS a) w).mono fun e w' h => by unfold FindAt at h; rw [hr] at h; exact h)
        | some p =>
          obtain ⟨b, l⟩ := p
          obtain ⟨k1, k2⟩ := rowOf_ok hr
          exact decode_row g o _ c a (opS a) b l w (by simp) ca h1 h2 ha ha' (fun w => (find_c (opS a) w).mono fun e w' h => by unfold FindAt at h; rw [hr] at h; exact h) k1 k2
set_option maxHeartbeats 1000000 in
theorem size_c (op d n m imm cond : Int) (w : World) : Calls Try.prog 35 #[.agg #[.int .i64 op, .int .i64 d, .int .i64 n, .int .i64 m, .int .i64 imm, .int .i64 cond]] w fun e w' => e = .returned (.int .i64 (if op = 43 then 4 else 2)) ∧ Below w.heap.size w w' := by
  go_enter Try.func35, Try.ntmps35
  by_cases h : op = 43
  · subst h
    go_wp2_with fail
    go_ret
    exact ⟨rfl, (Below.refl _ _).alloc (Nat.le_refl _) _⟩
  · have h' : (op == 43) = false := by simpa using h
    rw [if_neg h]
    clear h
    go_wp2_with fail
    go_ret
    exact ⟨rfl, (Below.refl _ _).alloc (Nat.le_refl _) _⟩
end Go.Proofs.Ytpihjhfaeloapaa
namespace Go.Proofs.Ytpihjhfaeloapaa
open Go.RowKit On Th
theorem Hw.below {w w' : World} {s : Value} {hs : List Int} (h : Hw w s hs) (hb : Below w.heap.size w w') : Hw w' s hs := by
  obtain ⟨A, c, h1, h2⟩ := h
  exact ⟨A, c, h1, fun k x hx => by
    obtain ⟨k1, k2, g, o, k3, k4⟩ := h2 k x hx
    exact ⟨k1, k2, g, o, k3, by rw [hb.cell (block_lt_of_cell k4)]; exact k4⟩⟩
theorem belowN {B : Nat} {a w : World} (h : Below B a w) (n : Nat) : Below B a (w.drewN n) := ⟨h.os, h.tape, h.output, h.size, h.block⟩
end Go.Proofs.Ytpihjhfaeloapaa
