/- The two memories side by side: what a step turns. -/
import Derived.Test.YtmbaoaoglhonfaaMemT
namespace Go.Proofs.Ytmbaoaoglhonfaa
open Go.RowKit On
structure Two (w0 : World) (p g p' g' X : Nat) (x : Int) (f1 f2 : Nat → Int) (W : World) : Prop where
  m : Mm W 68 p g f1
  r : Mm W 72 p' g' f2
  below : Below w0.heap.size w0 W
  cell : W.cell? ⟨X, 3, none⟩ = some (.int .u32 x)
  apart : X ≠ g ∧ X ≠ g' ∧ p' ≠ g ∧ g' ≠ g ∧ p ≠ g' ∧ w0.heap.size ≤ g ∧ w0.heap.size ≤ g' ∧ X < W.heap.size
section
variable {w0 W : World} {p g p' g' X : Nat} {x : Int} {f f1 f2 : Nat → Int}
theorem Two.drew (h : Two w0 p g p' g' X x f1 f2 W) : Two w0 p g p' g' X x f1 f2 W.drew :=
  ⟨h.m, h.r, ⟨h.below.os, h.below.tape, h.below.output, h.below.size, h.below.block⟩, h.cell, h.apart⟩
theorem Two.first {w' : World} (h : Two w0 p g p' g' X x f1 f2 W) (hm : Mm w' 68 p g f) (hO : Only (fun k => k = g) W w') : Two w0 p g p' g' X x f f2 w' := by
  obtain ⟨a1, a2, a3, a4, a5, a6, a7, a8⟩ := h.apart
  exact ⟨hm, h.r.only hO a3 a4, h.below.trans (hO.below h.below.size (fun j hj => by omega)), (hO.cell (p := ⟨X, 3, none⟩) a8 a1).trans h.cell, a1, a2, a3, a4, a5, a6, a7, by have := hO.size; omega⟩
theorem Two.second {w' : World} (h : Two w0 p g p' g' X x f1 f2 W) (hm : Mm w' 72 p' g' f) (hO : Only (fun k => k = g') W w') : Two w0 p g p' g' X x f1 f w' := by
  obtain ⟨a1, a2, a3, a4, a5, a6, a7, a8⟩ := h.apart
  exact ⟨h.m.only hO a5 (Ne.symm a4), hm, h.below.trans (hO.below h.below.size (fun j hj => by omega)), (hO.cell (p := ⟨X, 3, none⟩) a8 a2).trans h.cell, a1, a2, a3, a4, a5, a6, a7, by have := hO.size; omega⟩
variable (K v : Int)
theorem two_setword (h : Two w0 p g p' g' X x f1 f2 W) : Calls Try.prog 22 #[.pointer (some ⟨p, 0, none⟩), .int .i64 K, .int .u32 v] W fun e w' => e = .returned (.bool (okSW K)) ∧ Two w0 p g p' g' X x (setWF f1 K v) f2 w' :=
  (setword_t W p g f1 K v h.m).mono fun _ _ ⟨e, hm, hO⟩ => ⟨e, h.first hm hO⟩
theorem two_rsetword (h : Two w0 p g p' g' X x f1 f2 W) : Calls Try.prog 31 #[.pointer (some ⟨p', 0, none⟩), .int .i64 K, .int .u32 v] W fun e w' => e = .returned (.bool (okSW K)) ∧ Two w0 p g p' g' X x f1 (setWF f2 K v) w' :=
  (rsetword_t W p' g' f2 K v h.r).mono fun _ _ ⟨e, hm, hO⟩ => ⟨e, h.second hm hO⟩
theorem two_setbyte (h : Two w0 p g p' g' X x f1 f2 W) (hv : 0 ≤ v ∧ v ≤ 255) : Calls Try.prog 24 #[.pointer (some ⟨p, 0, none⟩), .int .i64 K, .int .u8 v] W fun e w' => e = .returned (.bool (okSB K)) ∧ Two w0 p g p' g' X x (setBF f1 K v) f2 w' :=
  (setbyte_t W p g f1 K v h.m hv).mono fun _ _ ⟨e, hm, hO⟩ => ⟨e, h.first hm hO⟩
theorem two_rsetbyte (h : Two w0 p g p' g' X x f1 f2 W) (hv : 0 ≤ v ∧ v ≤ 255) : Calls Try.prog 32 #[.pointer (some ⟨p', 0, none⟩), .int .i64 K, .int .u8 v] W fun e w' => e = .returned (.bool (okSB K)) ∧ Two w0 p g p' g' X x f1 (setBF f2 K v) w' :=
  (rsetbyte_t W p' g' f2 K v h.r hv).mono fun _ _ ⟨e, hm, hO⟩ => ⟨e, h.second hm hO⟩
end
end Go.Proofs.Ytmbaoaoglhonfaa
