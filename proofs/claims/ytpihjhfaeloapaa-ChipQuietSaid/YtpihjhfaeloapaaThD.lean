/- thumb.find, whatever the number is. -/
import Derived.Test.YtpihjhfaeloapaaThA
import Derived.Test.YtpihjhfaeloapaaThE
namespace Go.Proofs.Ytpihjhfaeloapaa
open Go.RowKit On Th
theorem FoundAt.row {w : World} {op b : Int} {cs : Array Value} {n : Nat} {e : Ending} {w' : World} (h : FoundAt w op b cs n e w') (l : List Sl) (hl : l.length = n) (hc : (cellsOf l).toArray = cs) : RowAt l op b true w e w' := by
  subst hl; subst hc
  obtain ⟨g, h1, h2, h3⟩ := h
  exact ⟨_, h1, .inr ⟨g, rfl, h2⟩, h3⟩
theorem slSet {w : World} {A : Option Addr} {l : List Sl} (h : SlA 140 w A l) {b : Nat} (i : Nat) (u : Value) {t : TypeId} {cs : Array Value} (hb : Blk w b t cs) (ht : 140 ≠ t) : SlA 140 (w.setCell ⟨b, i, none⟩ u) A l := by
  rcases h with h | ⟨g, h1, h2⟩
  · exact .inl h
  · exact .inr ⟨g, h1, h2.far (h2.ne hb ht) u⟩
set_option maxHeartbeats 16000000 in
set_option maxRecDepth 100000 in
theorem find_late (op : Int) (w : World) (l : List Sl) (o b : Int) (ok : Bool) (hl : ∀ w, Calls Try.prog 84 #[.int .i64 op] w (RowAt l o b ok w)) (h1 : ¬ (12 ≤ op ∧ op ≤ 27)) (h2 : ¬ (8 ≤ op ∧ op ≤ 11)) (g1 : op ≠ 1) (g2 : op ≠ 2) (g3 : op ≠ 3) (g4 : op ≠ 4) (g5 : op ≠ 5) (g6 : op ≠ 6) (g7 : op ≠ 7) (g30 : op ≠ 30) (g29 : op ≠ 29) (g32 : op ≠ 32) (g31 : op ≠ 31) (g34 : op ≠ 34) (g33 : op ≠ 33) :
    Calls Try.prog 72 #[.int .i64 op] w (RowAt l o b ok w) := by
  have HL := Lib.hid hl
  clear hl
  have K0 : Blk (((((((((((w.alloc (.cells #[.int .i64 0, .int .u16 0, .slice none 0 0] 123)).alloc (.cells #[.int .i64 0, .int .i64 0, .int .i64 3, .int .i64 0, .int .i64 7, .int .i64 1] 140)).alloc (.cells #[.int .i64 2, .int .i64 3, .int .i64 3, .int .i64 0, .int .i64 7, .int .i64 1] 140)).alloc (.cells #[.int .i64 0, .int .i64 8, .int .i64 3, .int .i64 0, .int .i64 7, .int .i64 1] 140)).alloc (.cells #[.int .i64 1, .int .i64 3, .int .i64 3, .int .i64 0, .int .i64 7, .int .i64 1] 140)).alloc (.cells #[.int .i64 0, .int .i64 0, .int .i64 3, .int .i64 0, .int .i64 7, .int .i64 1] 140)).alloc (.cells #[.int .i64 2, .int .i64 3, .int .i64 3, .int .i64 0, .int .i64 7, .int .i64 1] 140)).alloc (.cells #[.int .i64 0, .int .i64 8, .int .i64 3, .int .i64 0, .int .i64 7, .int .i64 1] 140)).alloc (.cells #[.int .i64 1, .int .i64 3, .int .i64 3, .int .i64 0, .int .i64 7, .int .i64 1] 140)).alloc (.cells #[.int .i64 2, .int .i64 6, .int .i64 3, .int .i64 0, .int .i64 7, .int .i64 1] 140)).alloc (.cells #[.int .i64 2, .int .i64 6, .int .i64 3, .int .i64 0, .int .i64 7, .int .i64 1] 140)) w.heap.size 123 #[.int .i64 0, .int .u16 0, .slice none 0 0] := (Blk.alloc (Blk.alloc (Blk.alloc (Blk.alloc (Blk.alloc (Blk.alloc (Blk.alloc (Blk.alloc (Blk.alloc (Blk.alloc (Blk.new' _ _ _ _ rfl) _) _) _) _) _) _) _) _) _) _)
  have HB0 : Hid (Below w.heap.size w (((((((((((w.alloc (.cells #[.int .i64 0, .int .u16 0, .slice none 0 0] 123)).alloc (.cells #[.int .i64 0, .int .i64 0, .int .i64 3, .int .i64 0, .int .i64 7, .int .i64 1] 140)).alloc (.cells #[.int .i64 2, .int .i64 3, .int .i64 3, .int .i64 0, .int .i64 7, .int .i64 1] 140)).alloc (.cells #[.int .i64 0, .int .i64 8, .int .i64 3, .int .i64 0, .int .i64 7, .int .i64 1] 140)).alloc (.cells #[.int .i64 1, .int .i64 3, .int .i64 3, .int .i64 0, .int .i64 7, .int .i64 1] 140)).alloc (.cells #[.int .i64 0, .int .i64 0, .int .i64 3, .int .i64 0, .int .i64 7, .int .i64 1] 140)).alloc (.cells #[.int .i64 2, .int .i64 3, .int .i64 3, .int .i64 0, .int .i64 7, .int .i64 1] 140)).alloc (.cells #[.int .i64 0, .int .i64 8, .int .i64 3, .int .i64 0, .int .i64 7, .int .i64 1] 140)).alloc (.cells #[.int .i64 1, .int .i64 3, .int .i64 3, .int .i64 0, .int .i64 7, .int .i64 1] 140)).alloc (.cells #[.int .i64 2, .int .i64 6, .int .i64 3, .int .i64 0, .int .i64 7, .int .i64 1] 140)).alloc (.cells #[.int .i64 2, .int .i64 6, .int .i64 3, .int .i64 0, .int .i64 7, .int .i64 1] 140))) := by (repeat (first | exact Below.refl _ _ | refine belowD ?_ | refine Below.alloc ?_ (by first | omega | (simp; done) | (simp; omega)) _))
  have hlt : Hid (w.heap.size < (((((((((((w.alloc (.cells #[.int .i64 0, .int .u16 0, .slice none 0 0] 123)).alloc (.cells #[.int .i64 0, .int .i64 0, .int .i64 3, .int .i64 0, .int .i64 7, .int .i64 1] 140)).alloc (.cells #[.int .i64 2, .int .i64 3, .int .i64 3, .int .i64 0, .int .i64 7, .int .i64 1] 140)).alloc (.cells #[.int .i64 0, .int .i64 8, .int .i64 3, .int .i64 0, .int .i64 7, .int .i64 1] 140)).alloc (.cells #[.int .i64 1, .int .i64 3, .int .i64 3, .int .i64 0, .int .i64 7, .int .i64 1] 140)).alloc (.cells #[.int .i64 0, .int .i64 0, .int .i64 3, .int .i64 0, .int .i64 7, .int .i64 1] 140)).alloc (.cells #[.int .i64 2, .int .i64 3, .int .i64 3, .int .i64 0, .int .i64 7, .int .i64 1] 140)).alloc (.cells #[.int .i64 0, .int .i64 8, .int .i64 3, .int .i64 0, .int .i64 7, .int .i64 1] 140)).alloc (.cells #[.int .i64 1, .int .i64 3, .int .i64 3, .int .i64 0, .int .i64 7, .int .i64 1] 140)).alloc (.cells #[.int .i64 2, .int .i64 6, .int .i64 3, .int .i64 0, .int .i64 7, .int .i64 1] 140)).alloc (.cells #[.int .i64 2, .int .i64 6, .int .i64 3, .int .i64 0, .int .i64 7, .int .i64 1] 140)).heap.size) := K0.lt
  rcases (show op < 8 ∨ (11 < op ∧ op < 12) ∨ 27 < op by omega) with h3 | h3 | h3
  · have h4 : ¬ (12 ≤ op) := by omega
    have h5 : ¬ (8 ≤ op) := by omega
    clear h1 h2
    go_enter Try.func72, Try.ntmps72
    go_wp2_with fail
    refine (reg_c _ _ _).mono ?_
    rintro e w' ⟨rfl, rfl⟩
    go_wp2_with fail
    refine (reg_c _ _ _).mono ?_
    rintro e w' ⟨rfl, rfl⟩
    go_wp2_with fail
    refine (reg_c _ _ _).mono ?_
    rintro e w' ⟨rfl, rfl⟩
    go_wp2_with fail
    refine (reg_c _ _ _).mono ?_
    rintro e w' ⟨rfl, rfl⟩
    go_wp2_with fail
    refine (reg_c _ _ _).mono ?_
    rintro e w' ⟨rfl, rfl⟩
    go_wp2_with fail
    refine (HL.out _).mono ?_
    rintro e w2 ⟨A, rfl, hs, hb⟩
    have K2 : Blk w2 w.heap.size 123 #[.int .i64 0, .int .u16 0, .slice none 0 0] := K0.only (S := fun _ => False) (Only.of_below hb) id
    have HB2 := Lib.hid (HB0.out.trans (hb.mono HB0.out.size))
    have HS2 := Lib.hid hs
    have f0 := K2.frozen 0
    have f1 := K2.frozen 1
    have f2 := K2.frozen 2
    have k0 := K2.cell 0
    have k1 := K2.cell 1
    have k2 := K2.cell 2
    simp at k0 k1 k2
    have hwl : w.heap.size < w2.heap.size := K2.lt
    clear hs hb
    go_wp2_with fail
    have K3 : Blk (((w2.setCell ⟨w.heap.size, 0, none⟩ (.int .i64 o)).setCell ⟨w.heap.size, 1, none⟩ (.int .u16 b)).setCell ⟨w.heap.size, 2, none⟩ (.slice A l.length l.length)) w.heap.size 123 #[.int .i64 o, .int .u16 b, .slice A l.length l.length] := ((K2.set 0 _).set 1 _).set 2 _
    have r0 : (((w2.setCell ⟨w.heap.size, 0, none⟩ (.int .i64 o)).setCell ⟨w.heap.size, 1, none⟩ (.int .u16 b)).setCell ⟨w.heap.size, 2, none⟩ (.slice A l.length l.length)).cell? ⟨w.heap.size, 0, none⟩ = some (.int .i64 o) := K3.cell 0
    have r1 : (((w2.setCell ⟨w.heap.size, 0, none⟩ (.int .i64 o)).setCell ⟨w.heap.size, 1, none⟩ (.int .u16 b)).setCell ⟨w.heap.size, 2, none⟩ (.slice A l.length l.length)).cell? ⟨w.heap.size, 1, none⟩ = some (.int .u16 b) := K3.cell 1
    have r2 : (((w2.setCell ⟨w.heap.size, 0, none⟩ (.int .i64 o)).setCell ⟨w.heap.size, 1, none⟩ (.int .u16 b)).setCell ⟨w.heap.size, 2, none⟩ (.slice A l.length l.length)).cell? ⟨w.heap.size, 2, none⟩ = some (.slice A l.length l.length) := K3.cell 2
    have HS3 := slSet HS2.out (b := w.heap.size) 0 (.int .i64 o) K2 (by decide)
    have HS4 := slSet HS3 (b := w.heap.size) 1 (.int .u16 b) (K2.set 0 _) (by decide)
    have HS5 := Lib.hid (slSet HS4 (b := w.heap.size) 2 (.slice A l.length l.length) ((K2.set 0 _).set 1 _) (by decide))
    have HB5 := Lib.hid (((HB2.out.setCell (p := ⟨w.heap.size, 0, none⟩) (Nat.le_refl _) (.int .i64 o)).setCell (p := ⟨w.heap.size, 1, none⟩) (Nat.le_refl _) (.int .u16 b)).setCell (p := ⟨w.heap.size, 2, none⟩) (Nat.le_refl _) (.slice A l.length l.length))
    clear HS3 HS4 K3 K2 k0 k1 k2 f0 f1 f2
    refine bodyPost_ret (v := .tuple #[.agg #[.int .i64 o, .int .u16 b, .slice A l.length l.length], .bool ok]) (by rw [results_cell_tmp rfl]; go_simp) rfl ?_
    exact ⟨_, rfl, HS5.out, HB5.out⟩
  · exfalso; omega
  · have h4 : ¬ (op ≤ 27) := by omega
    have h5 : ¬ (op ≤ 11) := by omega
    have h6 : 12 ≤ op := by omega
    have h7 : 8 ≤ op := by omega
    clear h1 h2
    go_enter Try.func72, Try.ntmps72
    go_wp2_with fail
    refine (reg_c _ _ _).mono ?_
    rintro e w' ⟨rfl, rfl⟩
    go_wp2_with fail
    refine (reg_c _ _ _).mono ?_
    rintro e w' ⟨rfl, rfl⟩
    go_wp2_with fail
    refine (reg_c _ _ _).mono ?_
    rintro e w' ⟨rfl, rfl⟩
    go_wp2_with fail
    refine (reg_c _ _ _).mono ?_
    rintro e w' ⟨rfl, rfl⟩
    go_wp2_with fail
    refine (reg_c _ _ _).mono ?_
    rintro e w' ⟨rfl, rfl⟩
    go_wp2_with fail
    refine (HL.out _).mono ?_
    rintro e w2 ⟨A, rfl, hs, hb⟩
    have K2 : Blk w2 w.heap.size 123 #[.int .i64 0, .int .u16 0, .slice none 0 0] := K0.only (S := fun _ => False) (Only.of_below hb) id
    have HB2 := Lib.hid (HB0.out.trans (hb.mono HB0.out.size))
    have HS2 := Lib.hid hs
    have f0 := K2.frozen 0
    have f1 := K2.frozen 1
    have f2 := K2.frozen 2
    have k0 := K2.cell 0
    have k1 := K2.cell 1
    have k2 := K2.cell 2
    simp at k0 k1 k2
    have hwl : w.heap.size < w2.heap.size := K2.lt
    clear hs hb
    go_wp2_with fail
    have K3 : Blk (((w2.setCell ⟨w.heap.size, 0, none⟩ (.int .i64 o)).setCell ⟨w.heap.size, 1, none⟩ (.int .u16 b)).setCell ⟨w.heap.size, 2, none⟩ (.slice A l.length l.length)) w.heap.size 123 #[.int .i64 o, .int .u16 b, .slice A l.length l.length] := ((K2.set 0 _).set 1 _).set 2 _
    have r0 : (((w2.setCell ⟨w.heap.size, 0, none⟩ (.int .i64 o)).setCell ⟨w.heap.size, 1, none⟩ (.int .u16 b)).setCell ⟨w.heap.size, 2, none⟩ (.slice A l.length l.length)).cell? ⟨w.heap.size, 0, none⟩ = some (.int .i64 o) := K3.cell 0
    have r1 : (((w2.setCell ⟨w.heap.size, 0, none⟩ (.int .i64 o)).setCell ⟨w.heap.size, 1, none⟩ (.int .u16 b)).setCell ⟨w.heap.size, 2, none⟩ (.slice A l.length l.length)).cell? ⟨w.heap.size, 1, none⟩ = some (.int .u16 b) := K3.cell 1
    have r2 : (((w2.setCell ⟨w.heap.size, 0, none⟩ (.int .i64 o)).setCell ⟨w.heap.size, 1, none⟩ (.int .u16 b)).setCell ⟨w.heap.size, 2, none⟩ (.slice A l.length l.length)).cell? ⟨w.heap.size, 2, none⟩ = some (.slice A l.length l.length) := K3.cell 2
    have HS3 := slSet HS2.out (b := w.heap.size) 0 (.int .i64 o) K2 (by decide)
    have HS4 := slSet HS3 (b := w.heap.size) 1 (.int .u16 b) (K2.set 0 _) (by decide)
    have HS5 := Lib.hid (slSet HS4 (b := w.heap.size) 2 (.slice A l.length l.length) ((K2.set 0 _).set 1 _) (by decide))
    have HB5 := Lib.hid (((HB2.out.setCell (p := ⟨w.heap.size, 0, none⟩) (Nat.le_refl _) (.int .i64 o)).setCell (p := ⟨w.heap.size, 1, none⟩) (Nat.le_refl _) (.int .u16 b)).setCell (p := ⟨w.heap.size, 2, none⟩) (Nat.le_refl _) (.slice A l.length l.length))
    clear HS3 HS4 K3 K2 k0 k1 k2 f0 f1 f2
    refine bodyPost_ret (v := .tuple #[.agg #[.int .i64 o, .int .u16 b, .slice A l.length l.length], .bool ok]) (by rw [results_cell_tmp rfl]; go_simp) rfl ?_
    exact ⟨_, rfl, HS5.out, HB5.out⟩
end Go.Proofs.Ytpihjhfaeloapaa
