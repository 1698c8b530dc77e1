/- The walk of IrKnown. -/
import Derived.Test.YtilifniflpbbkaaMust
import Derived.Test.YtilifniflpbbkaaEval
import Derived.Test.YtilifniflpbbkaaView
import Derived.BigGuardPart
import Derived.Deep.RegionHeld3
namespace Go.Proofs.Ytilifniflpbbkaa
open Go.RowKit On
theorem _root_.Go.RowKit.Below.drewn {B : Nat} {a w : World} (h : Below B a w) : Below B a w.drew := ⟨h.os, h.tape, h.output, h.size, h.block⟩
theorem nameConst_c (w : World) : Calls Try.prog 65 #[.agg #[.int .i64 0, .int .i32 0]] w fun e w' => e = .returned (.string { data := #[99, 111, 110, 115, 116] }) ∧ Below w.heap.size w w' := by
  go_enter Try.func65, Try.ntmps65
  go_wp2_with fail
  go_ret
  exact ⟨rfl, (Below.refl _ _).alloc (Nat.le_refl _) _⟩
theorem nameMove_c (w : World) : Calls Try.prog 68 #[.agg #[.int .i64 0, .int .i64 0]] w fun e w' => e = .returned (.string { data := #[109, 111, 118, 101] }) ∧ Below w.heap.size w w' := by
  go_enter Try.func68, Try.ntmps68
  go_wp2_with fail
  go_ret
  exact ⟨rfl, (Below.refl _ _).alloc (Nat.le_refl _) _⟩
theorem nameBin_c (w : World) : Calls Try.prog 62 #[.agg #[.int .i64 0, .int .i64 0, .int .i64 0, .int .i64 0]] w fun e w' => e = .returned (.string { data := #[98, 105, 110] }) ∧ Below w.heap.size w w' := by
  go_enter Try.func62, Try.ntmps62
  go_wp2_with fail
  go_ret
  exact ⟨rfl, (Below.refl _ _).alloc (Nat.le_refl _) _⟩
theorem nameUn_c (w : World) : Calls Try.prog 69 #[.agg #[.int .i64 0, .int .i64 0, .int .i64 0]] w fun e w' => e = .returned (.string { data := #[117, 110] }) ∧ Below w.heap.size w w' := by
  go_enter Try.func69, Try.ntmps69
  go_wp2_with fail
  go_ret
  exact ⟨rfl, (Below.refl _ _).alloc (Nat.le_refl _) _⟩
theorem nameChoose_c (w : World) : Calls Try.prog 63 #[.agg #[.int .i64 0, .int .i64 0, .int .i64 0, .int .i64 0]] w fun e w' => e = .returned (.string { data := #[99, 104, 111, 111, 115, 101] }) ∧ Below w.heap.size w w' := by
  go_enter Try.func63, Try.ntmps63
  go_wp2_with fail
  go_ret
  exact ⟨rfl, (Below.refl _ _).alloc (Nat.le_refl _) _⟩
theorem nameTick_c (w : World) : Calls Try.prog 66 #[.agg #[]] w fun e w' => e = .returned (.string { data := #[116, 105, 99, 107] }) ∧ Below w.heap.size w w' := by
  go_enter Try.func66, Try.ntmps66
  go_wp2_with fail
  go_ret
  exact ⟨rfl, (Below.refl _ _).alloc (Nat.le_refl _) _⟩
theorem nameGoto_c (w : World) : Calls Try.prog 70 #[.agg #[.int .i64 0]] w fun e w' => e = .returned (.string { data := #[103, 111, 116, 111] }) ∧ Below w.heap.size w w' := by
  go_enter Try.func70, Try.ntmps70
  go_wp2_with fail
  go_ret
  exact ⟨rfl, (Below.refl _ _).alloc (Nat.le_refl _) _⟩
theorem nameBranch_c (w : World) : Calls Try.prog 64 #[.agg #[.int .i64 0, .int .i64 0]] w fun e w' => e = .returned (.string { data := #[98, 114, 97, 110, 99, 104] }) ∧ Below w.heap.size w w' := by
  go_enter Try.func64, Try.ntmps64
  go_wp2_with fail
  go_ret
  exact ⟨rfl, (Below.refl _ _).alloc (Nat.le_refl _) _⟩
theorem nameGetField_c (w : World) : Calls Try.prog 71 #[.agg #[.int .i64 0, .int .i64 0]] w fun e w' => e = .returned (.string { data := #[103, 101, 116, 102, 105, 101, 108, 100] }) ∧ Below w.heap.size w w' := by
  go_enter Try.func71, Try.ntmps71
  go_wp2_with fail
  go_ret
  exact ⟨rfl, (Below.refl _ _).alloc (Nat.le_refl _) _⟩
theorem namePutField_c (w : World) : Calls Try.prog 72 #[.agg #[.int .i64 0, .int .i64 0]] w fun e w' => e = .returned (.string { data := #[112, 117, 116, 102, 105, 101, 108, 100] }) ∧ Below w.heap.size w w' := by
  go_enter Try.func72, Try.ntmps72
  go_wp2_with fail
  go_ret
  exact ⟨rfl, (Below.refl _ _).alloc (Nat.le_refl _) _⟩
theorem nameServe_c (w : World) : Calls Try.prog 73 #[.agg #[.int .i64 0, .int .i64 0, .int .i64 0, .int .i64 0, .slice Option.none 0 0]] w fun e w' => e = .returned (.string { data := #[115, 101, 114, 118, 101] }) ∧ Below w.heap.size w w' := by
  go_enter Try.func73, Try.ntmps73
  go_wp2_with fail
  go_ret
  exact ⟨rfl, (Below.refl _ _).alloc (Nat.le_refl _) _⟩
theorem nameCall_c (w : World) : Calls Try.prog 74 #[.agg #[.int .i64 0, .int .i64 0, .slice Option.none 0 0]] w fun e w' => e = .returned (.string { data := #[99, 97, 108, 108] }) ∧ Below w.heap.size w w' := by
  go_enter Try.func74, Try.ntmps74
  go_wp2_with fail
  go_ret
  exact ⟨rfl, (Below.refl _ _).alloc (Nat.le_refl _) _⟩
theorem nameCallX_c (w : World) : Calls Try.prog 75 #[.agg #[.int .i64 0, .int .i64 0, .slice Option.none 0 0]] w fun e w' => e = .returned (.string { data := #[99, 97, 108, 108, 120] }) ∧ Below w.heap.size w w' := by
  go_enter Try.func75, Try.ntmps75
  go_wp2_with fail
  go_ret
  exact ⟨rfl, (Below.refl _ _).alloc (Nat.le_refl _) _⟩
theorem nameRet_c (w : World) : Calls Try.prog 67 #[.agg #[.int .i64 0]] w fun e w' => e = .returned (.string { data := #[114, 101, 116] }) ∧ Below w.heap.size w w' := by
  go_enter Try.func67, Try.ntmps67
  go_wp2_with fail
  go_ret
  exact ⟨rfl, (Below.refl _ _).alloc (Nat.le_refl _) _⟩
def knownL : List Nd := [.tick, .const 0 5, .bin 6 1 0 0, .ret 1]
theorem known_check : CheckP 0 2 knownL := by
  refine ⟨by decide, by decide, by decide, by decide, by decide, fun i n hi => ?_⟩
  unfold knownL at hi ⊢
  match i, hi with
  | 0, hi => cases hi; decide
  | 1, hi => cases hi; decide
  | 2, hi => cases hi; decide
  | 3, hi => cases hi; decide
  | i + 4, hi => simp at hi
theorem ret_check : CheckP 0 0 [.ret (-1)] := by
  refine ⟨by decide, by decide, by decide, by decide, by decide, fun i n hi => ?_⟩
  match i, hi with
  | 0, hi => cases hi; decide
  | i + 1, hi => simp at hi
theorem known_eval : evalS knownL 99 ([0, 0], 0, 0) = ([5, 10], 3, 1) := by
  unfold knownL
  have h : Wd.ask 6 5 5 = 10 := by decide
  simp [evalS, rnd, Nd.pure, Nd.step, Nd.go, Nd.isTick, h]
theorem known_nodes (w : World) (o1 : Obj) : Nodes ((w.alloc (.cells #[(Nd.tick).val, (Nd.const 0 5).val, (Nd.bin 6 1 0 0).val, (Nd.ret 1).val] 64)).alloc o1) (some ⟨w.heap.size, 0, none⟩) knownL := by
  have hb := (Blk.new w 64 #[(Nd.tick).val, (Nd.const 0 5).val, (Nd.bin 6 1 0 0).val, (Nd.ret 1).val]).alloc o1
  intro i n hi
  unfold knownL at hi
  match i, hi with
  | 0, hi => cases hi; exact ⟨True.intro, _, _, rfl, hb.cell 0⟩
  | 1, hi => cases hi; exact ⟨by constructor <;> decide, _, _, rfl, hb.cell 1⟩
  | 2, hi => cases hi; exact ⟨True.intro, _, _, rfl, hb.cell 2⟩
  | 3, hi => cases hi; exact ⟨True.intro, _, _, rfl, hb.cell 3⟩
  | i + 4, hi => simp at hi
theorem known_regs (w : World) (g : Nat) (hg : g = w.heap.size) : Ints .i32 (w.alloc (.cells #[.int .i32 0, .int .i32 0] 21)) (.slice (some ⟨g, 0, none⟩) 2 2) [0, 0] := by
  subst hg
  have hb := Blk.new w 21 #[.int .i32 0, .int .i32 0]
  refine ⟨_, 2, rfl, by simp, fun i x hi => ?_⟩
  match i, hi with
  | 0, hi => cases hi; exact ⟨_, _, rfl, hb.cell 0⟩
  | 1, hi => cases hi; exact ⟨_, _, rfl, hb.cell 1⟩
  | i + 2, hi => simp at hi
theorem one_node {w : World} {b : Nat} {n : Nd} (h : w.cell? ⟨b, 0, none⟩ = some n.val) (hok : n.ok w) : Nodes w (some ⟨b, 0, none⟩) [n] := by
  intro k m hk
  match k, hk with
  | 0, hk => cases hk; exact ⟨hok, _, _, rfl, h⟩
  | k + 1, hk => simp at hk
set_option maxHeartbeats 16000000 in
set_option maxRecDepth 100000 in
theorem irKnown_walk (w : World) : Calls Try.prog 4 #[] w fun e w' => e = .returned (.bool true) ∧ Below w.heap.size w w' := by
  have HB0 : Hid (Below w.heap.size w ((w.alloc (.cells #[(Nd.const 0 0).val, (Nd.move 0 0).val, (Nd.bin 0 0 0 0).val, (Nd.un 0 0 0).val, (Nd.choose 0 0 0 0).val, (Nd.tick).val, (Nd.goto 0).val, (Nd.branch 0 0).val, (Nd.getf 0 0).val, (Nd.putf 0 0).val, (Nd.serve 0 0 0 0 Option.none 0 []).val, (Nd.call 0 0 Option.none 0 []).val, (Nd.callx 0 0 Option.none 0 []).val, (Nd.ret 0).val] 65)).alloc (.cells #[.string { data := #[99, 111, 110, 115, 116] }, .string { data := #[109, 111, 118, 101] }, .string { data := #[98, 105, 110] }, .string { data := #[117, 110] }, .string { data := #[99, 104, 111, 111, 115, 101] }, .string { data := #[116, 105, 99, 107] }, .string { data := #[103, 111, 116, 111] }, .string { data := #[98, 114, 97, 110, 99, 104] }, .string { data := #[103, 101, 116, 102, 105, 101, 108, 100] }, .string { data := #[112, 117, 116, 102, 105, 101, 108, 100] }, .string { data := #[115, 101, 114, 118, 101] }, .string { data := #[99, 97, 108, 108] }, .string { data := #[99, 97, 108, 108, 120] }, .string { data := #[114, 101, 116] }] 66))) := ((Below.refl _ _).alloc (Nat.le_refl _) _).alloc (by simp) _
  have KL : Hid (Blk ((w.alloc (.cells #[(Nd.const 0 0).val, (Nd.move 0 0).val, (Nd.bin 0 0 0 0).val, (Nd.un 0 0 0).val, (Nd.choose 0 0 0 0).val, (Nd.tick).val, (Nd.goto 0).val, (Nd.branch 0 0).val, (Nd.getf 0 0).val, (Nd.putf 0 0).val, (Nd.serve 0 0 0 0 Option.none 0 []).val, (Nd.call 0 0 Option.none 0 []).val, (Nd.callx 0 0 Option.none 0 []).val, (Nd.ret 0).val] 65)).alloc (.cells #[.string { data := #[99, 111, 110, 115, 116] }, .string { data := #[109, 111, 118, 101] }, .string { data := #[98, 105, 110] }, .string { data := #[117, 110] }, .string { data := #[99, 104, 111, 111, 115, 101] }, .string { data := #[116, 105, 99, 107] }, .string { data := #[103, 111, 116, 111] }, .string { data := #[98, 114, 97, 110, 99, 104] }, .string { data := #[103, 101, 116, 102, 105, 101, 108, 100] }, .string { data := #[112, 117, 116, 102, 105, 101, 108, 100] }, .string { data := #[115, 101, 114, 118, 101] }, .string { data := #[99, 97, 108, 108] }, .string { data := #[99, 97, 108, 108, 120] }, .string { data := #[114, 101, 116] }] 66)) w.heap.size 65 #[(Nd.const 0 0).val, (Nd.move 0 0).val, (Nd.bin 0 0 0 0).val, (Nd.un 0 0 0).val, (Nd.choose 0 0 0 0).val, (Nd.tick).val, (Nd.goto 0).val, (Nd.branch 0 0).val, (Nd.getf 0 0).val, (Nd.putf 0 0).val, (Nd.serve 0 0 0 0 Option.none 0 []).val, (Nd.call 0 0 Option.none 0 []).val, (Nd.callx 0 0 Option.none 0 []).val, (Nd.ret 0).val]) := (Blk.new w _ _).alloc _
  have KW : Hid (Blk ((w.alloc (.cells #[(Nd.const 0 0).val, (Nd.move 0 0).val, (Nd.bin 0 0 0 0).val, (Nd.un 0 0 0).val, (Nd.choose 0 0 0 0).val, (Nd.tick).val, (Nd.goto 0).val, (Nd.branch 0 0).val, (Nd.getf 0 0).val, (Nd.putf 0 0).val, (Nd.serve 0 0 0 0 Option.none 0 []).val, (Nd.call 0 0 Option.none 0 []).val, (Nd.callx 0 0 Option.none 0 []).val, (Nd.ret 0).val] 65)).alloc (.cells #[.string { data := #[99, 111, 110, 115, 116] }, .string { data := #[109, 111, 118, 101] }, .string { data := #[98, 105, 110] }, .string { data := #[117, 110] }, .string { data := #[99, 104, 111, 111, 115, 101] }, .string { data := #[116, 105, 99, 107] }, .string { data := #[103, 111, 116, 111] }, .string { data := #[98, 114, 97, 110, 99, 104] }, .string { data := #[103, 101, 116, 102, 105, 101, 108, 100] }, .string { data := #[112, 117, 116, 102, 105, 101, 108, 100] }, .string { data := #[115, 101, 114, 118, 101] }, .string { data := #[99, 97, 108, 108] }, .string { data := #[99, 97, 108, 108, 120] }, .string { data := #[114, 101, 116] }] 66)) (w.heap.size + 1) 66 #[.string { data := #[99, 111, 110, 115, 116] }, .string { data := #[109, 111, 118, 101] }, .string { data := #[98, 105, 110] }, .string { data := #[117, 110] }, .string { data := #[99, 104, 111, 111, 115, 101] }, .string { data := #[116, 105, 99, 107] }, .string { data := #[103, 111, 116, 111] }, .string { data := #[98, 114, 97, 110, 99, 104] }, .string { data := #[103, 101, 116, 102, 105, 101, 108, 100] }, .string { data := #[112, 117, 116, 102, 105, 101, 108, 100] }, .string { data := #[115, 101, 114, 118, 101] }, .string { data := #[99, 97, 108, 108] }, .string { data := #[99, 97, 108, 108, 120] }, .string { data := #[114, 101, 116] }]) := by
    have := Blk.new (w.alloc (.cells #[(Nd.const 0 0).val, (Nd.move 0 0).val, (Nd.bin 0 0 0 0).val, (Nd.un 0 0 0).val, (Nd.choose 0 0 0 0).val, (Nd.tick).val, (Nd.goto 0).val, (Nd.branch 0 0).val, (Nd.getf 0 0).val, (Nd.putf 0 0).val, (Nd.serve 0 0 0 0 Option.none 0 []).val, (Nd.call 0 0 Option.none 0 []).val, (Nd.callx 0 0 Option.none 0 []).val, (Nd.ret 0).val] 65)) 66 #[.string { data := #[99, 111, 110, 115, 116] }, .string { data := #[109, 111, 118, 101] }, .string { data := #[98, 105, 110] }, .string { data := #[117, 110] }, .string { data := #[99, 104, 111, 111, 115, 101] }, .string { data := #[116, 105, 99, 107] }, .string { data := #[103, 111, 116, 111] }, .string { data := #[98, 114, 97, 110, 99, 104] }, .string { data := #[103, 101, 116, 102, 105, 101, 108, 100] }, .string { data := #[112, 117, 116, 102, 105, 101, 108, 100] }, .string { data := #[115, 101, 114, 118, 101] }, .string { data := #[99, 97, 108, 108] }, .string { data := #[99, 97, 108, 108, 120] }, .string { data := #[114, 101, 116] }]
    rw [show (w.alloc (.cells #[(Nd.const 0 0).val, (Nd.move 0 0).val, (Nd.bin 0 0 0 0).val, (Nd.un 0 0 0).val, (Nd.choose 0 0 0 0).val, (Nd.tick).val, (Nd.goto 0).val, (Nd.branch 0 0).val, (Nd.getf 0 0).val, (Nd.putf 0 0).val, (Nd.serve 0 0 0 0 Option.none 0 []).val, (Nd.call 0 0 Option.none 0 []).val, (Nd.callx 0 0 Option.none 0 []).val, (Nd.ret 0).val] 65)).heap.size = w.heap.size + 1 by simp] at this
    exact this
  go_enter Try.func4, Try.ntmps4
  go_wp2_with fail
  go_loopw [3] (fun i wr => ∃ k : Nat, k ≤ 14 ∧ i = .int .i64 k ∧ Blk wr w.heap.size 65 #[(Nd.const 0 0).val, (Nd.move 0 0).val, (Nd.bin 0 0 0 0).val, (Nd.un 0 0 0).val, (Nd.choose 0 0 0 0).val, (Nd.tick).val, (Nd.goto 0).val, (Nd.branch 0 0).val, (Nd.getf 0 0).val, (Nd.putf 0 0).val, (Nd.serve 0 0 0 0 Option.none 0 []).val, (Nd.call 0 0 Option.none 0 []).val, (Nd.callx 0 0 Option.none 0 []).val, (Nd.ret 0).val] ∧ Blk wr (w.heap.size + 1) 66 #[.string { data := #[99, 111, 110, 115, 116] }, .string { data := #[109, 111, 118, 101] }, .string { data := #[98, 105, 110] }, .string { data := #[117, 110] }, .string { data := #[99, 104, 111, 111, 115, 101] }, .string { data := #[116, 105, 99, 107] }, .string { data := #[103, 111, 116, 111] }, .string { data := #[98, 114, 97, 110, 99, 104] }, .string { data := #[103, 101, 116, 102, 105, 101, 108, 100] }, .string { data := #[112, 117, 116, 102, 105, 101, 108, 100] }, .string { data := #[115, 101, 114, 118, 101] }, .string { data := #[99, 97, 108, 108] }, .string { data := #[99, 97, 108, 108, 120] }, .string { data := #[114, 101, 116] }] ∧ Below w.heap.size w wr) (fun i _ => 14 - (intOf i).toNat)
  case atStart => exact ⟨0, Nat.zero_le _, rfl, KL.out, KW.out, HB0.out⟩
  case round =>
    obtain ⟨k, hk, rfl, hkl, hkw, hb⟩ := hrel
    have HKL := Lib.hid hkl; have HKW := Lib.hid hkw; have HB := Lib.hid hb
    clear hkl hkw hb KL KW HB0
    match k, hk with
    | 0, _ =>
      have c1 := HKL.out.cell 0
      have c2 := HKW.out.cell 0
      simp at c1 c2
      have kf := And.intro c1 c2
      dsimp only [Nd.val] at c1 kf
      have hm : ∀ w : World, (method 205 31 (.agg #[.int .i64 0, .int .i32 0]) "Name").run Try.prog w = .ok (65, (.agg #[.int .i64 0, .int .i32 0])) w := fun _ => by kernel_rfl
      have hne : ∀ w, (binOp .neq 9 (.string { data := #[99, 111, 110, 115, 116] }) (.string { data := #[99, 111, 110, 115, 116] })).run Try.prog w = .ok (.bool false) w := fun w => by kernel_rfl
      go_wp2_with fail
      go_region_held3 (fun w' => w'.cell? ⟨w.heap.size, 0, none⟩ = some (.iface 31 (.agg #[.int .i64 0, .int .i32 0])) ∧ w'.cell? ⟨w.heap.size + 1, 0, none⟩ = some (.string { data := #[99, 111, 110, 115, 116] })) (first | with_reducible exact kf | with_reducible exact kg | exact kf | exact kg)
        (first | (go_at_call 65; refine (nameConst_c _).mono ?_; rintro e w2 ⟨rfl, hb2⟩; have k2 := HKL.out.drew.only (S := fun _ => False) (Only.of_below hb2) id; have m2 := HKW.out.drew.only (S := fun _ => False) (Only.of_below hb2) id; have c1 := k2.cell 0; have c2 := m2.cell 0; simp at c1 c2; have kg := And.intro c1 c2; dsimp only [Nd.val] at c1 kg) | (go_at_call 10; refine (pure_c (.const 0 0) _).mono ?_; rintro e w3 ⟨rfl, rfl⟩))
      have HB2 := Lib.hid (HB.out.drewn.trans (hb2.mono HB.out.drewn.size))
      have K2 := Lib.hid k2; have M2 := Lib.hid m2
      clear kf kg c2 hm hne k2 m2 hb2 HKL HKW HB
      go_wp2_with fail
      refine (must_no (n := .const 0 0) rfl _).mono ?_
      rintro e w4 ⟨rfl, hb4⟩
      have HB4 := Lib.hid (HB2.out.trans (hb4.mono HB2.out.size))
      have K4 := Lib.hid (K2.out.only (S := fun _ => False) (Only.of_below hb4) id)
      have M4 := Lib.hid (M2.out.only (S := fun _ => False) (Only.of_below hb4) id)
      clear hb4 c1
      go_wp2_with fail
      go_roundw
      case rel => exact ⟨1, by omega, by go_num, K4.out, M4.out, HB4.out⟩
      case measure => simp [intOf]
    | 1, _ =>
      have c1 := HKL.out.cell 1
      have c2 := HKW.out.cell 1
      simp at c1 c2
      have kf := And.intro c1 c2
      dsimp only [Nd.val] at c1 kf
      have hm : ∀ w : World, (method 205 47 (.agg #[.int .i64 0, .int .i64 0]) "Name").run Try.prog w = .ok (68, (.agg #[.int .i64 0, .int .i64 0])) w := fun _ => by kernel_rfl
      have hne : ∀ w, (binOp .neq 9 (.string { data := #[109, 111, 118, 101] }) (.string { data := #[109, 111, 118, 101] })).run Try.prog w = .ok (.bool false) w := fun w => by kernel_rfl
      go_wp2_with fail
      go_region_held3 (fun w' => w'.cell? ⟨w.heap.size, 1, none⟩ = some (.iface 47 (.agg #[.int .i64 0, .int .i64 0])) ∧ w'.cell? ⟨w.heap.size + 1, 1, none⟩ = some (.string { data := #[109, 111, 118, 101] })) (first | with_reducible exact kf | with_reducible exact kg | exact kf | exact kg)
        (first | (go_at_call 68; refine (nameMove_c _).mono ?_; rintro e w2 ⟨rfl, hb2⟩; have k2 := HKL.out.drew.only (S := fun _ => False) (Only.of_below hb2) id; have m2 := HKW.out.drew.only (S := fun _ => False) (Only.of_below hb2) id; have c1 := k2.cell 1; have c2 := m2.cell 1; simp at c1 c2; have kg := And.intro c1 c2; dsimp only [Nd.val] at c1 kg) | (go_at_call 10; refine (pure_c (.move 0 0) _).mono ?_; rintro e w3 ⟨rfl, rfl⟩))
      have HB2 := Lib.hid (HB.out.drewn.trans (hb2.mono HB.out.drewn.size))
      have K2 := Lib.hid k2; have M2 := Lib.hid m2
      clear kf kg c2 hm hne k2 m2 hb2 HKL HKW HB
      go_wp2_with fail
      refine (must_no (n := .move 0 0) rfl _).mono ?_
      rintro e w4 ⟨rfl, hb4⟩
      have HB4 := Lib.hid (HB2.out.trans (hb4.mono HB2.out.size))
      have K4 := Lib.hid (K2.out.only (S := fun _ => False) (Only.of_below hb4) id)
      have M4 := Lib.hid (M2.out.only (S := fun _ => False) (Only.of_below hb4) id)
      clear hb4 c1
      go_wp2_with fail
      go_roundw
      case rel => exact ⟨2, by omega, by go_num, K4.out, M4.out, HB4.out⟩
      case measure => simp [intOf]
    | 2, _ =>
      have c1 := HKL.out.cell 2
      have c2 := HKW.out.cell 2
      simp at c1 c2
      have kf := And.intro c1 c2
      dsimp only [Nd.val] at c1 kf
      have hm : ∀ w : World, (method 205 25 (.agg #[.int .i64 0, .int .i64 0, .int .i64 0, .int .i64 0]) "Name").run Try.prog w = .ok (62, (.agg #[.int .i64 0, .int .i64 0, .int .i64 0, .int .i64 0])) w := fun _ => by kernel_rfl
      have hne : ∀ w, (binOp .neq 9 (.string { data := #[98, 105, 110] }) (.string { data := #[98, 105, 110] })).run Try.prog w = .ok (.bool false) w := fun w => by kernel_rfl
      go_wp2_with fail
      go_region_held3 (fun w' => w'.cell? ⟨w.heap.size, 2, none⟩ = some (.iface 25 (.agg #[.int .i64 0, .int .i64 0, .int .i64 0, .int .i64 0])) ∧ w'.cell? ⟨w.heap.size + 1, 2, none⟩ = some (.string { data := #[98, 105, 110] })) (first | with_reducible exact kf | with_reducible exact kg | exact kf | exact kg)
        (first | (go_at_call 62; refine (nameBin_c _).mono ?_; rintro e w2 ⟨rfl, hb2⟩; have k2 := HKL.out.drew.only (S := fun _ => False) (Only.of_below hb2) id; have m2 := HKW.out.drew.only (S := fun _ => False) (Only.of_below hb2) id; have c1 := k2.cell 2; have c2 := m2.cell 2; simp at c1 c2; have kg := And.intro c1 c2; dsimp only [Nd.val] at c1 kg) | (go_at_call 10; refine (pure_c (.bin 0 0 0 0) _).mono ?_; rintro e w3 ⟨rfl, rfl⟩))
      have HB2 := Lib.hid (HB.out.drewn.trans (hb2.mono HB.out.drewn.size))
      have K2 := Lib.hid k2; have M2 := Lib.hid m2
      clear kf kg c2 hm hne k2 m2 hb2 HKL HKW HB
      go_wp2_with fail
      refine (must_no (n := .bin 0 0 0 0) rfl _).mono ?_
      rintro e w4 ⟨rfl, hb4⟩
      have HB4 := Lib.hid (HB2.out.trans (hb4.mono HB2.out.size))
      have K4 := Lib.hid (K2.out.only (S := fun _ => False) (Only.of_below hb4) id)
      have M4 := Lib.hid (M2.out.only (S := fun _ => False) (Only.of_below hb4) id)
      clear hb4 c1
      go_wp2_with fail
      go_roundw
      case rel => exact ⟨3, by omega, by go_num, K4.out, M4.out, HB4.out⟩
      case measure => simp [intOf]
    | 3, _ =>
      have c1 := HKL.out.cell 3
      have c2 := HKW.out.cell 3
      simp at c1 c2
      have kf := And.intro c1 c2
      dsimp only [Nd.val] at c1 kf
      have hm : ∀ w : World, (method 205 49 (.agg #[.int .i64 0, .int .i64 0, .int .i64 0]) "Name").run Try.prog w = .ok (69, (.agg #[.int .i64 0, .int .i64 0, .int .i64 0])) w := fun _ => by kernel_rfl
      have hne : ∀ w, (binOp .neq 9 (.string { data := #[117, 110] }) (.string { data := #[117, 110] })).run Try.prog w = .ok (.bool false) w := fun w => by kernel_rfl
      go_wp2_with fail
      go_region_held3 (fun w' => w'.cell? ⟨w.heap.size, 3, none⟩ = some (.iface 49 (.agg #[.int .i64 0, .int .i64 0, .int .i64 0])) ∧ w'.cell? ⟨w.heap.size + 1, 3, none⟩ = some (.string { data := #[117, 110] })) (first | with_reducible exact kf | with_reducible exact kg | exact kf | exact kg)
        (first | (go_at_call 69; refine (nameUn_c _).mono ?_; rintro e w2 ⟨rfl, hb2⟩; have k2 := HKL.out.drew.only (S := fun _ => False) (Only.of_below hb2) id; have m2 := HKW.out.drew.only (S := fun _ => False) (Only.of_below hb2) id; have c1 := k2.cell 3; have c2 := m2.cell 3; simp at c1 c2; have kg := And.intro c1 c2; dsimp only [Nd.val] at c1 kg) | (go_at_call 10; refine (pure_c (.un 0 0 0) _).mono ?_; rintro e w3 ⟨rfl, rfl⟩))
      have HB2 := Lib.hid (HB.out.drewn.trans (hb2.mono HB.out.drewn.size))
      have K2 := Lib.hid k2; have M2 := Lib.hid m2
      clear kf kg c2 hm hne k2 m2 hb2 HKL HKW HB
      go_wp2_with fail
      refine (must_no (n := .un 0 0 0) rfl _).mono ?_
      rintro e w4 ⟨rfl, hb4⟩
      have HB4 := Lib.hid (HB2.out.trans (hb4.mono HB2.out.size))
      have K4 := Lib.hid (K2.out.only (S := fun _ => False) (Only.of_below hb4) id)
      have M4 := Lib.hid (M2.out.only (S := fun _ => False) (Only.of_below hb4) id)
      clear hb4 c1
      go_wp2_with fail
      go_roundw
      case rel => exact ⟨4, by omega, by go_num, K4.out, M4.out, HB4.out⟩
      case measure => simp [intOf]
    | 4, _ =>
      have c1 := HKL.out.cell 4
      have c2 := HKW.out.cell 4
      simp at c1 c2
      have kf := And.intro c1 c2
      dsimp only [Nd.val] at c1 kf
      have hm : ∀ w : World, (method 205 27 (.agg #[.int .i64 0, .int .i64 0, .int .i64 0, .int .i64 0]) "Name").run Try.prog w = .ok (63, (.agg #[.int .i64 0, .int .i64 0, .int .i64 0, .int .i64 0])) w := fun _ => by kernel_rfl
      have hne : ∀ w, (binOp .neq 9 (.string { data := #[99, 104, 111, 111, 115, 101] }) (.string { data := #[99, 104, 111, 111, 115, 101] })).run Try.prog w = .ok (.bool false) w := fun w => by kernel_rfl
      go_wp2_with fail
      go_region_held3 (fun w' => w'.cell? ⟨w.heap.size, 4, none⟩ = some (.iface 27 (.agg #[.int .i64 0, .int .i64 0, .int .i64 0, .int .i64 0])) ∧ w'.cell? ⟨w.heap.size + 1, 4, none⟩ = some (.string { data := #[99, 104, 111, 111, 115, 101] })) (first | with_reducible exact kf | with_reducible exact kg | exact kf | exact kg)
        (first | (go_at_call 63; refine (nameChoose_c _).mono ?_; rintro e w2 ⟨rfl, hb2⟩; have k2 := HKL.out.drew.only (S := fun _ => False) (Only.of_below hb2) id; have m2 := HKW.out.drew.only (S := fun _ => False) (Only.of_below hb2) id; have c1 := k2.cell 4; have c2 := m2.cell 4; simp at c1 c2; have kg := And.intro c1 c2; dsimp only [Nd.val] at c1 kg) | (go_at_call 10; refine (pure_c (.choose 0 0 0 0) _).mono ?_; rintro e w3 ⟨rfl, rfl⟩))
      have HB2 := Lib.hid (HB.out.drewn.trans (hb2.mono HB.out.drewn.size))
      have K2 := Lib.hid k2; have M2 := Lib.hid m2
      clear kf kg c2 hm hne k2 m2 hb2 HKL HKW HB
      go_wp2_with fail
      refine (must_no (n := .choose 0 0 0 0) rfl _).mono ?_
      rintro e w4 ⟨rfl, hb4⟩
      have HB4 := Lib.hid (HB2.out.trans (hb4.mono HB2.out.size))
      have K4 := Lib.hid (K2.out.only (S := fun _ => False) (Only.of_below hb4) id)
      have M4 := Lib.hid (M2.out.only (S := fun _ => False) (Only.of_below hb4) id)
      clear hb4 c1
      go_wp2_with fail
      go_roundw
      case rel => exact ⟨5, by omega, by go_num, K4.out, M4.out, HB4.out⟩
      case measure => simp [intOf]
    | 5, _ =>
      have c1 := HKL.out.cell 5
      have c2 := HKW.out.cell 5
      simp at c1 c2
      have kf := And.intro c1 c2
      dsimp only [Nd.val] at c1 kf
      have hm : ∀ w : World, (method 205 33 (.agg #[]) "Name").run Try.prog w = .ok (66, (.agg #[])) w := fun _ => by kernel_rfl
      have hne : ∀ w, (binOp .neq 9 (.string { data := #[116, 105, 99, 107] }) (.string { data := #[116, 105, 99, 107] })).run Try.prog w = .ok (.bool false) w := fun w => by kernel_rfl
      go_wp2_with fail
      go_region_held3 (fun w' => w'.cell? ⟨w.heap.size, 5, none⟩ = some (.iface 33 (.agg #[])) ∧ w'.cell? ⟨w.heap.size + 1, 5, none⟩ = some (.string { data := #[116, 105, 99, 107] })) (first | with_reducible exact kf | with_reducible exact kg | exact kf | exact kg)
        (first | (go_at_call 66; refine (nameTick_c _).mono ?_; rintro e w2 ⟨rfl, hb2⟩; have k2 := HKL.out.drew.only (S := fun _ => False) (Only.of_below hb2) id; have m2 := HKW.out.drew.only (S := fun _ => False) (Only.of_below hb2) id; have c1 := k2.cell 5; have c2 := m2.cell 5; simp at c1 c2; have kg := And.intro c1 c2; dsimp only [Nd.val] at c1 kg) | (go_at_call 10; refine (pure_c (.tick) _).mono ?_; rintro e w3 ⟨rfl, rfl⟩))
      have HB2 := Lib.hid (HB.out.drewn.trans (hb2.mono HB.out.drewn.size))
      have K2 := Lib.hid k2; have M2 := Lib.hid m2
      clear kf kg c2 hm hne k2 m2 hb2 HKL HKW HB
      go_wp2_with fail
      refine (must_no (n := .tick) rfl _).mono ?_
      rintro e w4 ⟨rfl, hb4⟩
      have HB4 := Lib.hid (HB2.out.trans (hb4.mono HB2.out.size))
      have K4 := Lib.hid (K2.out.only (S := fun _ => False) (Only.of_below hb4) id)
      have M4 := Lib.hid (M2.out.only (S := fun _ => False) (Only.of_below hb4) id)
      clear hb4 c1
      go_wp2_with fail
      go_roundw
      case rel => exact ⟨6, by omega, by go_num, K4.out, M4.out, HB4.out⟩
      case measure => simp [intOf]
    | 6, _ =>
      have c1 := HKL.out.cell 6
      have c2 := HKW.out.cell 6
      simp at c1 c2
      have kf := And.intro c1 c2
      dsimp only [Nd.val] at c1 kf
      have hm : ∀ w : World, (method 205 51 (.agg #[.int .i64 0]) "Name").run Try.prog w = .ok (70, (.agg #[.int .i64 0])) w := fun _ => by kernel_rfl
      have hne : ∀ w, (binOp .neq 9 (.string { data := #[103, 111, 116, 111] }) (.string { data := #[103, 111, 116, 111] })).run Try.prog w = .ok (.bool false) w := fun w => by kernel_rfl
      go_wp2_with fail
      go_region_held3 (fun w' => w'.cell? ⟨w.heap.size, 6, none⟩ = some (.iface 51 (.agg #[.int .i64 0])) ∧ w'.cell? ⟨w.heap.size + 1, 6, none⟩ = some (.string { data := #[103, 111, 116, 111] })) (first | with_reducible exact kf | with_reducible exact kg | exact kf | exact kg)
        (first | (go_at_call 70; refine (nameGoto_c _).mono ?_; rintro e w2 ⟨rfl, hb2⟩; have k2 := HKL.out.drew.only (S := fun _ => False) (Only.of_below hb2) id; have m2 := HKW.out.drew.only (S := fun _ => False) (Only.of_below hb2) id; have c1 := k2.cell 6; have c2 := m2.cell 6; simp at c1 c2; have kg := And.intro c1 c2; dsimp only [Nd.val] at c1 kg) | (go_at_call 10; refine (pure_c (.goto 0) _).mono ?_; rintro e w3 ⟨rfl, rfl⟩))
      have HB2 := Lib.hid (HB.out.drewn.trans (hb2.mono HB.out.drewn.size))
      have K2 := Lib.hid k2; have M2 := Lib.hid m2
      clear kf kg c2 hm hne k2 m2 hb2 HKL HKW HB
      go_wp2_with fail
      refine (must_no (n := .goto 0) rfl _).mono ?_
      rintro e w4 ⟨rfl, hb4⟩
      have HB4 := Lib.hid (HB2.out.trans (hb4.mono HB2.out.size))
      have K4 := Lib.hid (K2.out.only (S := fun _ => False) (Only.of_below hb4) id)
      have M4 := Lib.hid (M2.out.only (S := fun _ => False) (Only.of_below hb4) id)
      clear hb4 c1
      go_wp2_with fail
      go_roundw
      case rel => exact ⟨7, by omega, by go_num, K4.out, M4.out, HB4.out⟩
      case measure => simp [intOf]
    | 7, _ =>
      have c1 := HKL.out.cell 7
      have c2 := HKW.out.cell 7
      simp at c1 c2
      have kf := And.intro c1 c2
      dsimp only [Nd.val] at c1 kf
      have hm : ∀ w : World, (method 205 29 (.agg #[.int .i64 0, .int .i64 0]) "Name").run Try.prog w = .ok (64, (.agg #[.int .i64 0, .int .i64 0])) w := fun _ => by kernel_rfl
      have hne : ∀ w, (binOp .neq 9 (.string { data := #[98, 114, 97, 110, 99, 104] }) (.string { data := #[98, 114, 97, 110, 99, 104] })).run Try.prog w = .ok (.bool false) w := fun w => by kernel_rfl
      go_wp2_with fail
      go_region_held3 (fun w' => w'.cell? ⟨w.heap.size, 7, none⟩ = some (.iface 29 (.agg #[.int .i64 0, .int .i64 0])) ∧ w'.cell? ⟨w.heap.size + 1, 7, none⟩ = some (.string { data := #[98, 114, 97, 110, 99, 104] })) (first | with_reducible exact kf | with_reducible exact kg | exact kf | exact kg)
        (first | (go_at_call 64; refine (nameBranch_c _).mono ?_; rintro e w2 ⟨rfl, hb2⟩; have k2 := HKL.out.drew.only (S := fun _ => False) (Only.of_below hb2) id; have m2 := HKW.out.drew.only (S := fun _ => False) (Only.of_below hb2) id; have c1 := k2.cell 7; have c2 := m2.cell 7; simp at c1 c2; have kg := And.intro c1 c2; dsimp only [Nd.val] at c1 kg) | (go_at_call 10; refine (pure_c (.branch 0 0) _).mono ?_; rintro e w3 ⟨rfl, rfl⟩))
      have HB2 := Lib.hid (HB.out.drewn.trans (hb2.mono HB.out.drewn.size))
      have K2 := Lib.hid k2; have M2 := Lib.hid m2
      clear kf kg c2 hm hne k2 m2 hb2 HKL HKW HB
      go_wp2_with fail
      refine (must_00 _).mono ?_
      rintro e w4 ⟨rfl, hb4⟩
      have HB4 := Lib.hid (HB2.out.trans (hb4.mono HB2.out.size))
      have K4 := Lib.hid (K2.out.only (S := fun _ => False) (Only.of_below hb4) id)
      have M4 := Lib.hid (M2.out.only (S := fun _ => False) (Only.of_below hb4) id)
      clear hb4 c1
      go_wp2_with fail
      go_roundw
      case rel => exact ⟨8, by omega, by go_num, K4.out, M4.out, HB4.out⟩
      case measure => simp [intOf]
    | 8, _ =>
      have c1 := HKL.out.cell 8
      have c2 := HKW.out.cell 8
      simp at c1 c2
      have kf := And.intro c1 c2
      dsimp only [Nd.val] at c1 kf
      have hm : ∀ w : World, (method 205 53 (.agg #[.int .i64 0, .int .i64 0]) "Name").run Try.prog w = .ok (71, (.agg #[.int .i64 0, .int .i64 0])) w := fun _ => by kernel_rfl
      have hne : ∀ w, (binOp .neq 9 (.string { data := #[103, 101, 116, 102, 105, 101, 108, 100] }) (.string { data := #[103, 101, 116, 102, 105, 101, 108, 100] })).run Try.prog w = .ok (.bool false) w := fun w => by kernel_rfl
      go_wp2_with fail
      go_region_held3 (fun w' => w'.cell? ⟨w.heap.size, 8, none⟩ = some (.iface 53 (.agg #[.int .i64 0, .int .i64 0])) ∧ w'.cell? ⟨w.heap.size + 1, 8, none⟩ = some (.string { data := #[103, 101, 116, 102, 105, 101, 108, 100] })) (first | with_reducible exact kf | with_reducible exact kg | exact kf | exact kg)
        (first | (go_at_call 71; refine (nameGetField_c _).mono ?_; rintro e w2 ⟨rfl, hb2⟩; have k2 := HKL.out.drew.only (S := fun _ => False) (Only.of_below hb2) id; have m2 := HKW.out.drew.only (S := fun _ => False) (Only.of_below hb2) id; have c1 := k2.cell 8; have c2 := m2.cell 8; simp at c1 c2; have kg := And.intro c1 c2; dsimp only [Nd.val] at c1 kg) | (go_at_call 10; refine (pure_c (.getf 0 0) _).mono ?_; rintro e w3 ⟨rfl, rfl⟩))
      have HB2 := Lib.hid (HB.out.drewn.trans (hb2.mono HB.out.drewn.size))
      have K2 := Lib.hid k2; have M2 := Lib.hid m2
      clear kf kg c2 hm hne k2 m2 hb2 HKL HKW HB
      go_wp2_with fail
      refine (must_no (n := .getf 0 0) rfl _).mono ?_
      rintro e w4 ⟨rfl, hb4⟩
      have HB4 := Lib.hid (HB2.out.trans (hb4.mono HB2.out.size))
      have K4 := Lib.hid (K2.out.only (S := fun _ => False) (Only.of_below hb4) id)
      have M4 := Lib.hid (M2.out.only (S := fun _ => False) (Only.of_below hb4) id)
      clear hb4 c1
      go_wp2_with fail
      go_roundw
      case rel => exact ⟨9, by omega, by go_num, K4.out, M4.out, HB4.out⟩
      case measure => simp [intOf]
    | 9, _ =>
      have c1 := HKL.out.cell 9
      have c2 := HKW.out.cell 9
      simp at c1 c2
      have kf := And.intro c1 c2
      dsimp only [Nd.val] at c1 kf
      have hm : ∀ w : World, (method 205 55 (.agg #[.int .i64 0, .int .i64 0]) "Name").run Try.prog w = .ok (72, (.agg #[.int .i64 0, .int .i64 0])) w := fun _ => by kernel_rfl
      have hne : ∀ w, (binOp .neq 9 (.string { data := #[112, 117, 116, 102, 105, 101, 108, 100] }) (.string { data := #[112, 117, 116, 102, 105, 101, 108, 100] })).run Try.prog w = .ok (.bool false) w := fun w => by kernel_rfl
      go_wp2_with fail
      go_region_held3 (fun w' => w'.cell? ⟨w.heap.size, 9, none⟩ = some (.iface 55 (.agg #[.int .i64 0, .int .i64 0])) ∧ w'.cell? ⟨w.heap.size + 1, 9, none⟩ = some (.string { data := #[112, 117, 116, 102, 105, 101, 108, 100] })) (first | with_reducible exact kf | with_reducible exact kg | exact kf | exact kg)
        (first | (go_at_call 72; refine (namePutField_c _).mono ?_; rintro e w2 ⟨rfl, hb2⟩; have k2 := HKL.out.drew.only (S := fun _ => False) (Only.of_below hb2) id; have m2 := HKW.out.drew.only (S := fun _ => False) (Only.of_below hb2) id; have c1 := k2.cell 9; have c2 := m2.cell 9; simp at c1 c2; have kg := And.intro c1 c2; dsimp only [Nd.val] at c1 kg) | (go_at_call 10; refine (pure_c (.putf 0 0) _).mono ?_; rintro e w3 ⟨rfl, rfl⟩))
      have HB2 := Lib.hid (HB.out.drewn.trans (hb2.mono HB.out.drewn.size))
      have K2 := Lib.hid k2; have M2 := Lib.hid m2
      clear kf kg c2 hm hne k2 m2 hb2 HKL HKW HB
      go_wp2_with fail
      refine (must_no (n := .putf 0 0) rfl _).mono ?_
      rintro e w4 ⟨rfl, hb4⟩
      have HB4 := Lib.hid (HB2.out.trans (hb4.mono HB2.out.size))
      have K4 := Lib.hid (K2.out.only (S := fun _ => False) (Only.of_below hb4) id)
      have M4 := Lib.hid (M2.out.only (S := fun _ => False) (Only.of_below hb4) id)
      clear hb4 c1
      go_wp2_with fail
      go_roundw
      case rel => exact ⟨10, by omega, by go_num, K4.out, M4.out, HB4.out⟩
      case measure => simp [intOf]
    | 10, _ =>
      have c1 := HKL.out.cell 10
      have c2 := HKW.out.cell 10
      simp at c1 c2
      have kf := And.intro c1 c2
      dsimp only [Nd.val] at c1 kf
      have hm : ∀ w : World, (method 205 58 (.agg #[.int .i64 0, .int .i64 0, .int .i64 0, .int .i64 0, .slice Option.none 0 0]) "Name").run Try.prog w = .ok (73, (.agg #[.int .i64 0, .int .i64 0, .int .i64 0, .int .i64 0, .slice Option.none 0 0])) w := fun _ => by kernel_rfl
      have hne : ∀ w, (binOp .neq 9 (.string { data := #[115, 101, 114, 118, 101] }) (.string { data := #[115, 101, 114, 118, 101] })).run Try.prog w = .ok (.bool false) w := fun w => by kernel_rfl
      go_wp2_with fail
      go_region_held3 (fun w' => w'.cell? ⟨w.heap.size, 10, none⟩ = some (.iface 58 (.agg #[.int .i64 0, .int .i64 0, .int .i64 0, .int .i64 0, .slice Option.none 0 0])) ∧ w'.cell? ⟨w.heap.size + 1, 10, none⟩ = some (.string { data := #[115, 101, 114, 118, 101] })) (first | with_reducible exact kf | with_reducible exact kg | exact kf | exact kg)
        (first | (go_at_call 73; refine (nameServe_c _).mono ?_; rintro e w2 ⟨rfl, hb2⟩; have k2 := HKL.out.drew.only (S := fun _ => False) (Only.of_below hb2) id; have m2 := HKW.out.drew.only (S := fun _ => False) (Only.of_below hb2) id; have c1 := k2.cell 10; have c2 := m2.cell 10; simp at c1 c2; have kg := And.intro c1 c2; dsimp only [Nd.val] at c1 kg) | (go_at_call 10; refine (pure_c (.serve 0 0 0 0 Option.none 0 []) _).mono ?_; rintro e w3 ⟨rfl, rfl⟩))
      have HB2 := Lib.hid (HB.out.drewn.trans (hb2.mono HB.out.drewn.size))
      have K2 := Lib.hid k2; have M2 := Lib.hid m2
      clear kf kg c2 hm hne k2 m2 hb2 HKL HKW HB
      go_wp2_with fail
      go_roundw
      case rel => exact ⟨11, by omega, by go_num, K2.out, M2.out, HB2.out⟩
      case measure => simp [intOf]
    | 11, _ =>
      have c1 := HKL.out.cell 11
      have c2 := HKW.out.cell 11
      simp at c1 c2
      have kf := And.intro c1 c2
      dsimp only [Nd.val] at c1 kf
      have hm : ∀ w : World, (method 205 60 (.agg #[.int .i64 0, .int .i64 0, .slice Option.none 0 0]) "Name").run Try.prog w = .ok (74, (.agg #[.int .i64 0, .int .i64 0, .slice Option.none 0 0])) w := fun _ => by kernel_rfl
      have hne : ∀ w, (binOp .neq 9 (.string { data := #[99, 97, 108, 108] }) (.string { data := #[99, 97, 108, 108] })).run Try.prog w = .ok (.bool false) w := fun w => by kernel_rfl
      go_wp2_with fail
      go_region_held3 (fun w' => w'.cell? ⟨w.heap.size, 11, none⟩ = some (.iface 60 (.agg #[.int .i64 0, .int .i64 0, .slice Option.none 0 0])) ∧ w'.cell? ⟨w.heap.size + 1, 11, none⟩ = some (.string { data := #[99, 97, 108, 108] })) (first | with_reducible exact kf | with_reducible exact kg | exact kf | exact kg)
        (first | (go_at_call 74; refine (nameCall_c _).mono ?_; rintro e w2 ⟨rfl, hb2⟩; have k2 := HKL.out.drew.only (S := fun _ => False) (Only.of_below hb2) id; have m2 := HKW.out.drew.only (S := fun _ => False) (Only.of_below hb2) id; have c1 := k2.cell 11; have c2 := m2.cell 11; simp at c1 c2; have kg := And.intro c1 c2; dsimp only [Nd.val] at c1 kg) | (go_at_call 10; refine (pure_c (.call 0 0 Option.none 0 []) _).mono ?_; rintro e w3 ⟨rfl, rfl⟩))
      have HB2 := Lib.hid (HB.out.drewn.trans (hb2.mono HB.out.drewn.size))
      have K2 := Lib.hid k2; have M2 := Lib.hid m2
      clear kf kg c2 hm hne k2 m2 hb2 HKL HKW HB
      go_wp2_with fail
      go_roundw
      case rel => exact ⟨12, by omega, by go_num, K2.out, M2.out, HB2.out⟩
      case measure => simp [intOf]
    | 12, _ =>
      have c1 := HKL.out.cell 12
      have c2 := HKW.out.cell 12
      simp at c1 c2
      have kf := And.intro c1 c2
      dsimp only [Nd.val] at c1 kf
      have hm : ∀ w : World, (method 205 62 (.agg #[.int .i64 0, .int .i64 0, .slice Option.none 0 0]) "Name").run Try.prog w = .ok (75, (.agg #[.int .i64 0, .int .i64 0, .slice Option.none 0 0])) w := fun _ => by kernel_rfl
      have hne : ∀ w, (binOp .neq 9 (.string { data := #[99, 97, 108, 108, 120] }) (.string { data := #[99, 97, 108, 108, 120] })).run Try.prog w = .ok (.bool false) w := fun w => by kernel_rfl
      go_wp2_with fail
      go_region_held3 (fun w' => w'.cell? ⟨w.heap.size, 12, none⟩ = some (.iface 62 (.agg #[.int .i64 0, .int .i64 0, .slice Option.none 0 0])) ∧ w'.cell? ⟨w.heap.size + 1, 12, none⟩ = some (.string { data := #[99, 97, 108, 108, 120] })) (first | with_reducible exact kf | with_reducible exact kg | exact kf | exact kg)
        (first | (go_at_call 75; refine (nameCallX_c _).mono ?_; rintro e w2 ⟨rfl, hb2⟩; have k2 := HKL.out.drew.only (S := fun _ => False) (Only.of_below hb2) id; have m2 := HKW.out.drew.only (S := fun _ => False) (Only.of_below hb2) id; have c1 := k2.cell 12; have c2 := m2.cell 12; simp at c1 c2; have kg := And.intro c1 c2; dsimp only [Nd.val] at c1 kg) | (go_at_call 10; refine (pure_c (.callx 0 0 Option.none 0 []) _).mono ?_; rintro e w3 ⟨rfl, rfl⟩))
      have HB2 := Lib.hid (HB.out.drewn.trans (hb2.mono HB.out.drewn.size))
      have K2 := Lib.hid k2; have M2 := Lib.hid m2
      clear kf kg c2 hm hne k2 m2 hb2 HKL HKW HB
      go_wp2_with fail
      go_roundw
      case rel => exact ⟨13, by omega, by go_num, K2.out, M2.out, HB2.out⟩
      case measure => simp [intOf]
    | 13, _ =>
      have c1 := HKL.out.cell 13
      have c2 := HKW.out.cell 13
      simp at c1 c2
      have kf := And.intro c1 c2
      dsimp only [Nd.val] at c1 kf
      have hm : ∀ w : World, (method 205 35 (.agg #[.int .i64 0]) "Name").run Try.prog w = .ok (67, (.agg #[.int .i64 0])) w := fun _ => by kernel_rfl
      have hne : ∀ w, (binOp .neq 9 (.string { data := #[114, 101, 116] }) (.string { data := #[114, 101, 116] })).run Try.prog w = .ok (.bool false) w := fun w => by kernel_rfl
      go_wp2_with fail
      go_region_held3 (fun w' => w'.cell? ⟨w.heap.size, 13, none⟩ = some (.iface 35 (.agg #[.int .i64 0])) ∧ w'.cell? ⟨w.heap.size + 1, 13, none⟩ = some (.string { data := #[114, 101, 116] })) (first | with_reducible exact kf | with_reducible exact kg | exact kf | exact kg)
        (first | (go_at_call 67; refine (nameRet_c _).mono ?_; rintro e w2 ⟨rfl, hb2⟩; have k2 := HKL.out.drew.only (S := fun _ => False) (Only.of_below hb2) id; have m2 := HKW.out.drew.only (S := fun _ => False) (Only.of_below hb2) id; have c1 := k2.cell 13; have c2 := m2.cell 13; simp at c1 c2; have kg := And.intro c1 c2; dsimp only [Nd.val] at c1 kg) | (go_at_call 10; refine (pure_c (.ret 0) _).mono ?_; rintro e w3 ⟨rfl, rfl⟩))
      have HB2 := Lib.hid (HB.out.drewn.trans (hb2.mono HB.out.drewn.size))
      have K2 := Lib.hid k2; have M2 := Lib.hid m2
      clear kf kg c2 hm hne k2 m2 hb2 HKL HKW HB
      go_wp2_with fail
      go_roundw
      case rel => exact ⟨14, by omega, by go_num, K2.out, M2.out, HB2.out⟩
      case measure => simp [intOf]
    | 14, _ =>
      clear HKL HKW
      go_wp2_with fail
      obtain ⟨w3, hw3⟩ : ∃ w3, w3 = ((wr.alloc (.cells #[(Nd.tick).val, (Nd.const 0 5).val, (Nd.bin 6 1 0 0).val, (Nd.ret 1).val] 64)).alloc (.cells #[.int .i32 0, .int .i32 0] 21)) := ⟨_, rfl⟩
      have hnodes : Nodes w3 (some ⟨wr.heap.size, 0, none⟩) knownL := by rw [hw3]; exact known_nodes wr _
      have hregs : Ints .i32 w3 (.slice (some ⟨wr.heap.size + 1, 0, none⟩) 2 2) [0, 0] := by rw [hw3]; exact known_regs _ _ (by simp)
      have hbel : Below w.heap.size w w3 := by rw [hw3]; exact (HB.out.alloc HB.out.size _).alloc (HB.out.alloc HB.out.size _).size _
      show Calls Try.prog 6 #[.agg #[.int .i64 0, .int .i64 2, .slice (some ⟨wr.heap.size, 0, none⟩) 4 4], .slice (some ⟨wr.heap.size + 1, 0, none⟩) 2 2, .int .i64 0, .int .i64 99] ((wr.alloc (.cells #[(Nd.tick).val, (Nd.const 0 5).val, (Nd.bin 6 1 0 0).val, (Nd.ret 1).val] 64)).alloc (.cells #[.int .i32 0, .int .i32 0] 21)) _
      rw [← hw3]
      clear hw3
      have HN3 := Lib.hid hnodes; have HB3 := Lib.hid hbel; have HG3 := Lib.hid hregs
      clear hnodes hbel hregs HB
      refine (eval_c 0 (some ⟨wr.heap.size, 0, none⟩) (some ⟨wr.heap.size + 1, 0, none⟩) 4 2 knownL [0, 0] 0 99 (by decide) (by decide) w3 HN3.out known_check HG3.out (by
        intro x hx
        simp at hx
        subst hx
        unfold Wd.R; simp)).mono ?_
      rintro e w4 ⟨v, rfl, hr, hb⟩
      have h99 : (99 : Int).toNat = 99 := rfl
      rw [h99, known_eval] at hr ⊢
      obtain ⟨g, cv, rfl, h1, h2, h3, cur, hg, hcs, hcur⟩ := Regs.at hr (k := 0) (by simp)
      have e1 : cur[1]? = some (.int .i32 10) := hcur 1 (by simp)
      have HG4 : Hid (Blk w4 g 21 cur) := hg
      have HE1 := Lib.hid e1
      have HB4 := Lib.hid (HB3.out.trans (hb.mono HB3.out.size))
      dsimp only [List.length] at h1
      clear hr hb hg hcs hcur e1 HN3 HB3 HG3 h99 h3
      dsimp only
      go_wp2_with fail
      refine (known_c _).mono ?_
      rintro e w5 ⟨rfl, hb⟩
      have HB5 := Lib.hid (HB4.out.trans (hb.mono HB4.out.size))
      have e1 := ((HG4.out.only (S := fun _ => False) (Only.of_below hb) id).cell 1).trans HE1.out
      clear hb HB4 HG4
      go_wp2_with fail
      refine (must_03 _).mono ?_
      rintro e w6 ⟨rfl, hb⟩
      have HB6 := Lib.hid (HB5.out.trans (hb.mono HB5.out.size))
      clear hb HB5 e1 HE1
      go_wp2_with fail
      refine (must_no (n := .none) rfl _).mono ?_
      rintro e w7 ⟨rfl, hb⟩
      have HB7 := Lib.hid (HB6.out.trans (hb.mono HB6.out.size))
      clear hb HB6
      go_wp2_with fail
      refine (def_c .none _).mono ?_
      rintro e w8 ⟨rfl, hb⟩
      have HB8 := Lib.hid (HB7.out.trans (hb.mono HB7.out.size))
      clear hb HB7
      rw [show Nd.none.dst = -1 from rfl]
      go_wp2_with fail
      refine (uses_c .none _ True.intro).mono ?_
      rintro e w9 ⟨s, rfl, hi, hb⟩
      have HB9 := Lib.hid (HB8.out.trans (hb.mono HB8.out.size))
      obtain ⟨A9, c9, rfl, _, _⟩ := hi
      clear hb HB8
      rw [show Nd.none.uses.length = 0 from rfl]
      go_wp2_with fail
      refine (next_c .none 1 (by decide) (by decide) _).mono ?_
      rintro e w10 ⟨s, rfl, hi, hb⟩
      have HB10 := Lib.hid (HB9.out.trans (hb.mono HB9.out.size))
      obtain ⟨A10, c10, rfl, _, _⟩ := hi
      clear hb HB9
      rw [show (Nd.none.next 1).length = 0 from rfl]
      go_wp2_with fail
      refine (pure_c .none _).mono ?_
      rintro e w11 ⟨rfl, rfl⟩
      rw [show Nd.none.pure = false from rfl]
      go_wp2_with fail
      refine (check_c 0 0 none 0 [] _ (fun k n h => by simp at h)).mono ?_
      rintro e w12 ⟨b, rfl, hb1, hb⟩
      obtain rfl : b = false := by
        cases b
        · rfl
        · have := hb1.mp rfl; exact absurd this.1 (by decide)
      have HB12 := Lib.hid (HB10.out.trans (hb.mono HB10.out.size))
      clear hb1 hb HB10
      go_wp2_with fail
      have hk12 := (Blk.new w12 64 #[(Nd.ret (-1)).val]).cell 0
      refine (check_c 0 0 (some ⟨w12.heap.size, 0, none⟩) 1 [.ret (-1)] _ (one_node hk12 True.intro)).mono ?_
      rintro e w13 ⟨b, rfl, hb1, hb⟩
      obtain rfl : b = true := hb1.mpr ret_check
      have HB13 := Lib.hid ((HB12.out.alloc HB12.out.size (.cells #[(Nd.ret (-1)).val] 64)).trans (hb.mono (HB12.out.alloc HB12.out.size (.cells #[(Nd.ret (-1)).val] 64)).size))
      clear hb1 hb HB12 hk12
      go_wp2_with fail
      have hk13 := (Blk.new w13 64 #[Nd.none.val]).cell 0
      refine (check_c 0 0 (some ⟨w13.heap.size, 0, none⟩) 1 [.none] _ (one_node hk13 True.intro)).mono ?_
      rintro e w14 ⟨b, rfl, hb1, hb⟩
      obtain rfl : b = false := by
        cases b
        · rfl
        · have := (hb1.mp rfl).2.2.2.2.2 0 .none rfl; exact absurd this (by decide)
      have HB14 := Lib.hid ((HB13.out.alloc HB13.out.size (.cells #[Nd.none.val] 64)).trans (hb.mono (HB13.out.alloc HB13.out.size (.cells #[Nd.none.val] 64)).size))
      clear hb1 hb HB13 hk13
      go_wp2_with fail
      go_ret
      exact ⟨rfl, HB14.out⟩
    | k + 15, hk15 => exact absurd hk15 (by omega)
end Go.Proofs.Ytilifniflpbbkaa
