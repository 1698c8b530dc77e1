/- The walk of IrNodes. -/
import Derived.Test.YtilifniflpbbkaaDoorHnA
import Derived.Test.YtilifniflpbbkaaDoorHnB
import Derived.Test.YtilifniflpbbkaaDoorHnC
import Derived.Test.YtilifniflpbbkaaDoorHnD
import Derived.Test.YtilifniflpbbkaaDoorHnE
import Derived.Test.YtilifniflpbbkaaDoorView
import Derived.Test.YtilifniflpbbkaaDoorNArg
import Derived.Test.YtilifniflpbbkaaDoorIr3
import Derived.StillTailTactics
import Derived.Deep.RegionHeld3
import Derived.BigQuiet
import Derived.Deep.QuietTactic
import Derived.BigGuardPart
namespace Go.Proofs.YtilifniflpbbkaaDoor
open Go.RowKit On
theorem _root_.Go.RowKit.Below.drewn {B : Nat} {a w : World} (h : Below B a w) : Below B a w.drew := ⟨h.os, h.tape, h.output, h.size, h.block⟩
theorem Ints.drewn {q : IntKind} {w : World} {s : Value} {xs : List Int} (h : Ints q w s xs) : Ints q w.drew s xs := h
/-- hand.Node -/
theorem hnode_c (x0 x1 x2 x3 x4 x5 x6 x7 : Int) (XA : Option Addr) (xc : Nat) (xs : List Int) (regs nodes : Int) (hr : regs ≤ 1000000) (hn1 : 1 ≤ nodes) (hn : nodes ≤ 1000000) (w : World) (hx : Ints .i64 w (.slice XA xs.length xc) xs) (hbins : Bins w) :
    Calls Tryd.prog 7 #[.agg #[.int .i64 x0, .int .i64 x1, .int .i64 x2, .int .i64 x3, .int .i64 x4, .int .i64 x5, .int .i64 x6, .int .i64 x7, .slice XA xs.length xc], .int .i64 regs, .int .i64 nodes] w (NodeAt w) := by
  have h : (x0 % 18 = 0 ∨ x0 % 18 = 1 ∨ x0 % 18 = 2 ∨ x0 % 18 = 8 ∨ x0 % 18 = 9 ∨ x0 % 18 = 10 ∨ x0 % 18 = 11 ∨ x0 % 18 = 12 ∨ x0 % 18 = 13 ∨ x0 % 18 = 17) ∨ (x0 % 18 = 3 ∨ x0 % 18 = 4 ∨ x0 % 18 = 6) ∨ (x0 % 18 = 5 ∨ x0 % 18 = 7 ∨ x0 % 18 = 14) ∨ x0 % 18 = 15 ∨ x0 % 18 = 16 := by omega
  rcases h with h | h | h | h | h
  · exact hnode_a x0 x1 x2 x3 x4 x5 x6 x7 XA xc xs regs nodes hr hn1 hn w hx hbins h
  · exact hnode_b x0 x1 x2 x3 x4 x5 x6 x7 XA xc xs regs nodes hr hn1 hn w hx hbins h
  · exact hnode_f x0 x1 x2 x3 x4 x5 x6 x7 XA xc xs regs nodes hr hn1 hn w hx hbins h
  · exact hnode_d x0 x1 x2 x3 x4 x5 x6 x7 XA xc xs regs nodes hr hn1 hn w hx hbins h
  · exact hnode_e x0 x1 x2 x3 x4 x5 x6 x7 XA xc xs regs nodes hr hn1 hn w hx hbins h
/-- the law's own uses -/
theorem lawUses_c (k0 k1 k2 k3 k4 k5 k6 : Int) (PA : Option Addr) (L pc : Nat) (w : World) : Calls Tryd.prog 13 #[.agg #[.int .i64 k0, .int .i64 k1, .int .i64 k2, .int .i64 k3, .int .i64 k4, .int .i64 k5, .int .i64 k6, .slice PA L pc]] w fun e w' => e = .returned (.slice PA L pc) ∧ Below w.heap.size w w' := by
  go_enter Tryd.func13, Tryd.ntmps13
  go_wp2_with fail
  go_ret
  exact ⟨rfl, (Below.refl _ _).alloc (Nat.le_refl _) _⟩
set_option maxHeartbeats 16000000 in
set_option maxRecDepth 100000 in
theorem irNodes_walk (x0 x1 x2 x3 x4 x5 x6 x7 : Int) (XA : Option Addr) (xc : Nat) (xs : List Int) (regs nodes at_ : Int) (w : World) (hx : Ints .i64 w (.slice XA xs.length xc) xs) (hbins : Bins w) :
    Calls Tryd.prog 3 #[.agg #[.int .i64 x0, .int .i64 x1, .int .i64 x2, .int .i64 x3, .int .i64 x4, .int .i64 x5, .int .i64 x6, .int .i64 x7, .slice XA xs.length xc], .int .i64 regs, .int .i64 nodes, .int .i64 at_] w fun e w' => e = .returned (.bool true) ∧ Below w.heap.size w w' := by
  have HX := Lib.hid hx
  have HBI := Lib.hid hbins
  clear hx hbins
  obtain ⟨rq, hrq⟩ : ∃ rq, regs % 20 = rq := ⟨_, rfl⟩
  obtain ⟨nq, hnq⟩ : ∃ nq, nodes % 40 = nq := ⟨_, rfl⟩
  have hrq1 : 0 ≤ rq := by omega
  have hrq2 : rq < 20 := by omega
  have hnq1 : 0 ≤ nq := by omega
  have hnq2 : nq < 40 := by omega
  have q1 : ∀ w, Calls Tryd.prog 8 #[.int .i64 regs, .int .i64 20] w fun e w' => e = .returned (.int .i64 rq) ∧ w' = w := fun w => (pickN regs 20 (by decide) (by decide) w).mono fun _ _ h => ⟨by rw [h.1, hrq], h.2.symm⟩
  have q2 : ∀ w, Calls Tryd.prog 8 #[.int .i64 nodes, .int .i64 40] w fun e w' => e = .returned (.int .i64 nq) ∧ w' = w := fun w => (pickN nodes 40 (by decide) (by decide) w).mono fun _ _ h => ⟨by rw [h.1, hnq], h.2.symm⟩
  clear hrq hnq
  go_enter Tryd.func3, Tryd.ntmps3
  go_wp2_with fail
  obtain ⟨wa, hwa⟩ : ∃ wa, wa = w.alloc (.cells #[.int .i64 x0, .int .i64 x1, .int .i64 x2, .int .i64 x3, .int .i64 x4, .int .i64 x5, .int .i64 x6, .int .i64 x7, .slice XA xs.length xc] 24) := ⟨_, rfl⟩
  obtain ⟨X, hX⟩ : ∃ X, X = w.heap.size := ⟨_, rfl⟩
  have KR : Blk wa X 24 #[.int .i64 x0, .int .i64 x1, .int .i64 x2, .int .i64 x3, .int .i64 x4, .int .i64 x5, .int .i64 x6, .int .i64 x7, .slice XA xs.length xc] := by rw [hwa, hX]; exact Blk.new _ _ _
  have HBA : Hid (Below w.heap.size w wa) := by rw [hwa]; exact (Below.refl _ _).alloc (Nat.le_refl _) _
  rw [← hwa, ← hX]
  clear hwa hX
  have r0 := KR.cell 0
  have r1 := KR.cell 1
  have r2 := KR.cell 2
  have r3 := KR.cell 3
  have r4 := KR.cell 4
  have r5 := KR.cell 5
  have r6 := KR.cell 6
  have r7 := KR.cell 7
  have r8 := KR.cell 8
  simp at r0 r1 r2 r3 r4 r5 r6 r7 r8
  clear KR
  go_still_tail 7, (by kernel_rfl)
  still_call (q1 _)
  repeat still_step
  still_call (q2 _)
  repeat still_step
  refine wpStill_nil ?_
  change wpList _ _ _ _ _ wa.drew
  obtain ⟨wd, hwd⟩ : ∃ wd, wd = wa.drew := ⟨_, rfl⟩
  have HBD : Hid (Below w.heap.size w wd) := by rw [hwd]; exact HBA.out.drewn
  rw [← hwd]
  clear hwd q1 q2 r0 r1 r2 r3 r4 r5 r6 r7 r8 HBA
  have hw1 : IntKind.i64.wrap (1 + rq) = 1 + rq := by rw [IntKind.wrap_i64]; omega
  have hw2 : IntKind.i64.wrap (1 + nq) = 1 + nq := by rw [IntKind.wrap_i64]; omega
  rw [hw1, hw2]
  clear hw1 hw2
  go_wp2_with fail
  refine (hnode_c x0 x1 x2 x3 x4 x5 x6 x7 XA xc xs (1 + rq) (1 + nq) (by omega) (by omega) (by omega) _ (HX.out.keep HBD.out) (HBI.out.keep HBD.out)).mono ?_
  rintro e w2 ⟨nd, rfl, hok, hb⟩
  have HB2 := Lib.hid (HBD.out.trans (hb.mono HBD.out.size))
  have HOK := Lib.hid hok
  clear hb hok HX HBI HBD
  go_wp2_with fail
  refine (plain_c nd _ HOK.out).mono ?_
  rintro e w3 ⟨PA, pc, rfl, hi, hb⟩
  have HB3 := Lib.hid (HB2.out.trans (hb.mono HB2.out.size))
  have HOK3 := Lib.hid (HOK.out.keep hb)
  obtain ⟨n, hnn⟩ : ∃ n, at_ % 40 = n := ⟨_, rfl⟩
  have hnn1 : 0 ≤ n := by omega
  have hnn2 : n < 100000 := by omega
  rw [nd.pn_args] at hi
  have HI3 := Lib.hid hi
  have hU := Lib.hid (fun wq h => uses_c nd wq h)
  have hD := Lib.hid (fun wq => def_c nd wq)
  have hN := Lib.hid (fun wq => next_c nd n hnn1 hnn2 wq)
  have hP := Lib.hid (fun wq => pure_c nd wq)
  have hE := Lib.hid (fun wq => refDef_c nd PA pc wq)
  have hM := Lib.hid (fun wq => refNext_c nd n hnn1 hnn2 PA pc wq)
  have hQ := Lib.hid (fun wq => refPure_c nd PA pc wq)
  unfold Pn.val at hE hM hQ ⊢
  rw [nd.pn_args] at hE hM hQ ⊢
  have HUL := Lib.hid (Nd.uses_len HOK.out)
  have HNL := Lib.hid (Nd.next_len n nd)
  generalize nd.uses = us at *
  generalize nd.pn.kind = k0 at *
  generalize nd.pn.dst = k1 at *
  generalize nd.pn.op = k2 at *
  generalize nd.pn.n = k3 at *
  generalize nd.pn.a = k4 at *
  generalize nd.pn.b = k5 at *
  generalize nd.pn.tgt = k6 at *
  generalize nd.dst = dd at *
  generalize nd.next n = ns at *
  generalize nd.pure = pp at *
  have HOKA : Hid (∀ wq, Below w3.heap.size w3 wq → nd.ok wq) := fun wq h => HOK3.out.keep h
  generalize nd.val = nv at *
  obtain ⟨L, hL⟩ : ∃ L, us.length = L := ⟨_, rfl⟩
  rw [hL] at hE hM hQ HI3 ⊢
  have HL := Lib.hid hL
  clear hi hb hL HOK HB2
  go_wp2_with fail
  refine (pickN at_ 40 (by decide) (by decide) _).mono ?_
  rintro e w' ⟨rfl, rfl⟩
  rw [hnn]
  clear hnn
  obtain ⟨wb, hwb⟩ : ∃ wb, wb = w3.alloc (.cells #[.int .i64 k0, .int .i64 k1, .int .i64 k2, .int .i64 k3, .int .i64 k4, .int .i64 k5, .int .i64 k6, .slice PA L pc] 30) := ⟨_, rfl⟩
  obtain ⟨Y, hY⟩ : ∃ Y, Y = w3.heap.size := ⟨_, rfl⟩
  have KP : Blk wb Y 30 #[.int .i64 k0, .int .i64 k1, .int .i64 k2, .int .i64 k3, .int .i64 k4, .int .i64 k5, .int .i64 k6, .slice PA L pc] := by rw [hwb, hY]; exact Blk.new _ _ _
  have HWB : Hid (Below w3.heap.size w3 wb) := by rw [hwb]; exact (Below.refl _ _).alloc (Nat.le_refl _) _
  rw [← hwb, ← hY]
  clear hwb hY
  have HBB := Lib.hid (HB3.out.trans (HWB.out.mono HB3.out.size))
  have hS : Hid (∀ w', Below wb.heap.size wb w' → w'.cell? ⟨Y, 0, none⟩ = some (.int .i64 k0) ∧ w'.cell? ⟨Y, 1, none⟩ = some (.int .i64 k1) ∧ w'.cell? ⟨Y, 2, none⟩ = some (.int .i64 k2) ∧ w'.cell? ⟨Y, 3, none⟩ = some (.int .i64 k3) ∧ w'.cell? ⟨Y, 4, none⟩ = some (.int .i64 k4) ∧ w'.cell? ⟨Y, 5, none⟩ = some (.int .i64 k5) ∧ w'.cell? ⟨Y, 6, none⟩ = some (.int .i64 k6) ∧ w'.cell? ⟨Y, 7, none⟩ = some (.slice PA L pc)) := fun w' h => by
    have k := KP.only (S := fun _ => False) (Only.of_below h) id
    exact ⟨k.cell 0, k.cell 1, k.cell 2, k.cell 3, k.cell 4, k.cell 5, k.cell 6, k.cell 7⟩
  have b0 : Below wb.heap.size wb wb := Below.refl _ _
  have k00 := hS.out wb b0
  have l00 := hS.out wb.drew b0.drewn
  have hK : Hid (∀ wq, Below wb.heap.size wb wq → Calls Tryd.prog 10 #[] wq fun e w' => e = .returned (.bool true) ∧ Below wb.heap.size wb w') := fun wq h => (known_c wq).mono fun e w' g => ⟨g.1, h.trans (g.2.mono h.size)⟩
  have hU' : Hid (∀ wq, Below wb.heap.size wb wq → Calls Tryd.prog 12 #[nv] wq fun e w' => ∃ s, e = .returned s ∧ Ints .i64 w' s us ∧ Below wb.heap.size wb w') := fun wq h => (hU.out wq (HOKA.out wq (HWB.out.trans (h.mono HWB.out.size)))).mono fun e w' ⟨s, g1, g2, g3⟩ => ⟨s, g1, g2, h.trans (g3.mono h.size)⟩
  have hA : Hid (∀ wq, Below wb.heap.size wb wq → ∀ s, Ints .i64 wq s us → Calls Tryd.prog 13 #[.agg #[.int .i64 k0, .int .i64 k1, .int .i64 k2, .int .i64 k3, .int .i64 k4, .int .i64 k5, .int .i64 k6, .slice PA L pc]] wq fun e w' => e = .returned (.slice PA L pc) ∧ Below wb.heap.size wb w' ∧ Ints .i64 w' s us) := fun wq h s i => (lawUses_c k0 k1 k2 k3 k4 k5 k6 PA L pc wq).mono fun e w' g => ⟨g.1, h.trans (g.2.mono h.size), i.keep g.2⟩
  have hI : Hid (∀ wq, Below wb.heap.size wb wq → ∀ s, Ints .i64 wq s us → Calls Tryd.prog 11 #[s, .slice PA L pc] wq fun e w' => e = .returned (.bool true) ∧ Below wb.heap.size wb w') := fun wq h s i =>
    (ints_c i (HI3.out.keep (HWB.out.trans (h.mono HWB.out.size))) (by have := HUL.out; omega)).mono fun e w' g => ⟨by rw [g.1, decide_eq_true rfl], h.trans (g.2.mono h.size)⟩
  have hD' : Hid (∀ wq, Below wb.heap.size wb wq → Calls Tryd.prog 14 #[nv] wq fun e w' => e = .returned (.int .i64 dd) ∧ Below wb.heap.size wb w') := fun wq h => (hD.out wq).mono fun e w' g => ⟨g.1, h.trans (g.2.mono h.size)⟩
  have hE' : Hid (∀ wq, Below wb.heap.size wb wq → Calls Tryd.prog 15 #[.agg #[.int .i64 k0, .int .i64 k1, .int .i64 k2, .int .i64 k3, .int .i64 k4, .int .i64 k5, .int .i64 k6, .slice PA L pc]] wq fun e w' => e = .returned (.int .i64 dd) ∧ Below wb.heap.size wb w') := fun wq h => (hE.out wq).mono fun e w' g => ⟨g.1, h.trans (g.2.mono h.size)⟩
  have hN' : Hid (∀ wq, Below wb.heap.size wb wq → Calls Tryd.prog 16 #[nv, .int .i64 n] wq fun e w' => ∃ s, e = .returned s ∧ Ints .i64 w' s ns ∧ Below wb.heap.size wb w') := fun wq h => (hN.out wq).mono fun e w' ⟨s, g1, g2, g3⟩ => ⟨s, g1, g2, h.trans (g3.mono h.size)⟩
  have hM' : Hid (∀ wq, Below wb.heap.size wb wq → ∀ t, Ints .i64 wq t ns → Calls Tryd.prog 17 #[.agg #[.int .i64 k0, .int .i64 k1, .int .i64 k2, .int .i64 k3, .int .i64 k4, .int .i64 k5, .int .i64 k6, .slice PA L pc], .int .i64 n] wq fun e w' => ∃ s, e = .returned s ∧ Ints .i64 w' t ns ∧ Ints .i64 w' s ns ∧ Below wb.heap.size wb w') := fun wq h t i => (hM.out wq).mono fun e w' ⟨s, g1, g2, g3⟩ => ⟨s, g1, i.keep g3, g2, h.trans (g3.mono h.size)⟩
  have hJ : Hid (∀ wq, Below wb.heap.size wb wq → ∀ s t, Ints .i64 wq s ns → Ints .i64 wq t ns → Calls Tryd.prog 11 #[s, t] wq fun e w' => e = .returned (.bool true) ∧ Below wb.heap.size wb w') := fun wq h s t i j =>
    (ints_c i j (by have := HNL.out; omega)).mono fun e w' g => ⟨by rw [g.1, decide_eq_true rfl], h.trans (g.2.mono h.size)⟩
  have hP' : Hid (∀ wq, Below wb.heap.size wb wq → Calls Tryd.prog 18 #[nv] wq fun e w' => e = .returned (.bool pp) ∧ Below wb.heap.size wb w') := fun wq h => (hP.out wq).mono fun e w' g => ⟨g.1, by rw [← g.2]; exact h⟩
  have hQ' : Hid (∀ wq, Below wb.heap.size wb wq → Calls Tryd.prog 19 #[.agg #[.int .i64 k0, .int .i64 k1, .int .i64 k2, .int .i64 k3, .int .i64 k4, .int .i64 k5, .int .i64 k6, .slice PA L pc]] wq fun e w' => e = .returned (.bool pp) ∧ Below wb.heap.size wb w') := fun wq h => (hQ.out wq).mono fun e w' g => ⟨g.1, h.trans (g.2.mono h.size)⟩
  clear hU hD hE hN hM hP hQ HI3 HUL HNL HOKA HWB KP HL
  go_wp2_with fail
  go_region_held3 (fun w' => w'.cell? ⟨Y, 0, none⟩ = some (.int .i64 k0) ∧ w'.cell? ⟨Y, 1, none⟩ = some (.int .i64 k1) ∧ w'.cell? ⟨Y, 2, none⟩ = some (.int .i64 k2) ∧ w'.cell? ⟨Y, 3, none⟩ = some (.int .i64 k3) ∧ w'.cell? ⟨Y, 4, none⟩ = some (.int .i64 k4) ∧ w'.cell? ⟨Y, 5, none⟩ = some (.int .i64 k5) ∧ w'.cell? ⟨Y, 6, none⟩ = some (.int .i64 k6) ∧ w'.cell? ⟨Y, 7, none⟩ = some (.slice PA L pc)) (first | with_reducible exact k00 | with_reducible exact l00 | with_reducible exact k1' | with_reducible exact l1' | with_reducible exact k2' | with_reducible exact l2' | with_reducible exact k3' | with_reducible exact l3' | with_reducible exact k4' | with_reducible exact l4' | with_reducible exact k5' | with_reducible exact l5' | with_reducible exact k6' | with_reducible exact l6' | with_reducible exact k7' | with_reducible exact l7' | with_reducible exact k8' | with_reducible exact l8' | with_reducible exact k9' | with_reducible exact l9' | with_reducible exact k10' | with_reducible exact l10' | with_reducible exact k11' | with_reducible exact l11' )
    (first | (go_at_call 10; refine (hK.out _ (by first | with_reducible exact b0 | with_reducible exact b0.drewn)).mono ?_; rintro e w1 ⟨rfl, b1⟩; have k1' := hS.out _ b1; have l1' := hS.out _ b1.drewn) | (go_at_call 12; refine (hU'.out _ (by first | with_reducible exact b1 | with_reducible exact b1.drewn)).mono ?_; rintro e w2 ⟨s1, rfl, i1, b2⟩; have k2' := hS.out _ b2; have l2' := hS.out _ b2.drewn) | (go_at_call 13; refine (hA.out _ (by first | with_reducible exact b2 | with_reducible exact b2.drewn) s1 (by first | with_reducible exact i1 | with_reducible exact i1.drewn)).mono ?_; rintro e w3 ⟨rfl, b3, i3⟩; have k3' := hS.out _ b3; have l3' := hS.out _ b3.drewn) | (go_at_call 11; refine (hJ.out _ (by first | with_reducible exact b8 | with_reducible exact b8.drewn) s7 s8 (by first | with_reducible exact i8 | with_reducible exact i8.drewn) (by first | with_reducible exact j8 | with_reducible exact j8.drewn)).mono ?_; rintro e w9 ⟨rfl, b9⟩; have k9' := hS.out _ b9; have l9' := hS.out _ b9.drewn) | (go_at_call 11; refine (hI.out _ (by first | with_reducible exact b3 | with_reducible exact b3.drewn) s1 (by first | with_reducible exact i3 | with_reducible exact i3.drewn)).mono ?_; rintro e w4 ⟨rfl, b4⟩; have k4' := hS.out _ b4; have l4' := hS.out _ b4.drewn) | (go_at_call 14; refine (hD'.out _ (by first | with_reducible exact b4 | with_reducible exact b4.drewn)).mono ?_; rintro e w5 ⟨rfl, b5⟩; have k5' := hS.out _ b5; have l5' := hS.out _ b5.drewn) | (go_at_call 15; refine (hE'.out _ (by first | with_reducible exact b5 | with_reducible exact b5.drewn)).mono ?_; rintro e w6 ⟨rfl, b6⟩; have k6' := hS.out _ b6; have l6' := hS.out _ b6.drewn) | (go_at_call 16; refine (hN'.out _ (by first | with_reducible exact b6 | with_reducible exact b6.drewn)).mono ?_; rintro e w7 ⟨s7, rfl, i7, b7⟩; have k7' := hS.out _ b7; have l7' := hS.out _ b7.drewn) | (go_at_call 17; refine (hM'.out _ (by first | with_reducible exact b7 | with_reducible exact b7.drewn) s7 (by first | with_reducible exact i7 | with_reducible exact i7.drewn)).mono ?_; rintro e w8 ⟨s8, rfl, i8, j8, b8⟩; have k8' := hS.out _ b8; have l8' := hS.out _ b8.drewn) | (go_at_call 18; refine (hP'.out _ (by first | with_reducible exact b9 | with_reducible exact b9.drewn)).mono ?_; rintro e w10 ⟨rfl, b10⟩; have k10' := hS.out _ b10; have l10' := hS.out _ b10.drewn) | (go_at_call 19; refine (hQ'.out _ (by first | with_reducible exact b10 | with_reducible exact b10.drewn)).mono ?_; rintro e w11 ⟨rfl, b11⟩; have k11' := hS.out _ b11; have l11' := hS.out _ b11.drewn))
  go_wp2_with fail
  go_ret
  exact ⟨rfl, HBB.out.trans ((by first | exact b11 | exact b11.drewn : Below wb.heap.size wb _).mono HBB.out.size)⟩
theorem irNodes_top (v0 v1 v2 v3 : Value) (w : World) (u0 : Vw.Arg Tryd.prog w 24 v0) (u1 : Vw.Arg Tryd.prog w 3 v1) (u2 : Vw.Arg Tryd.prog w 3 v2) (u3 : Vw.Arg Tryd.prog w 3 v3) (hb : Bins w) :
    Calls Tryd.prog 3 #[v0, v1, v2, v3] w fun e w' => e = .returned (.bool true) ∧ Below w.heap.size w w' := by
  obtain ⟨x0, x1, x2, x3, x4, x5, x6, x7, A, c, xs, rfl, hI⟩ := arg_rawnode u0
  obtain ⟨r, rfl, _⟩ := Vw.Arg.int Tryd.underlying3 u1
  obtain ⟨n, rfl, _⟩ := Vw.Arg.int Tryd.underlying3 u2
  obtain ⟨a, rfl, _⟩ := Vw.Arg.int Tryd.underlying3 u3
  exact irNodes_walk x0 x1 x2 x3 x4 x5 x6 x7 A c xs r n a w hI hb
end Go.Proofs.YtilifniflpbbkaaDoor
