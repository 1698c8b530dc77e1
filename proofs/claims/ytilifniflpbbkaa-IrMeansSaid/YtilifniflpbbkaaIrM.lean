/- The walk of IrMeans. -/
import Derived.Test.YtilifniflpbbkaaIrK
import Derived.Test.YtilifniflpbbkaaEval
import Derived.Test.YtilifniflpbbkaaRefDo
import Derived.Test.YtilifniflpbbkaaView
import Derived.BigGuardPart
import Derived.Deep.CutBlock
import Derived.Deep.RegionHeld3
namespace Go.Proofs.Ytilifniflpbbkaa
open Go.RowKit On
def meansL (k : Int) : List Nd := [.bin k 3 0 1, .choose 4 2 0 1, .branch 2 4, .const 5 1, .tick, .ret 3]
theorem means_check {k : Int} (h : binS k = true) : CheckP 0 6 (meansL k) := by
  refine ⟨by simp [meansL], by simp [meansL], by decide, by decide, by decide, fun i n hi => ?_⟩
  have hl : (meansL k).length = 6 := rfl
  rw [hl]
  unfold meansL at hi
  match i, hi with
  | 0, hi => cases hi; simp [Nd.rightS, Nd.fieldsS, Nd.uses, Nd.next, Nd.dst, Nd.bareS, h]; decide
  | 1, hi => cases hi; decide
  | 2, hi => cases hi; decide
  | 3, hi => cases hi; decide
  | 4, hi => cases hi; decide
  | 5, hi => cases hi; decide
  | i + 6, hi => simp at hi
theorem means_eval (k a b c : Int) : evalS (meansL k) 99 ([a, b, c, 0, 0, 0], 0, 0) = ([a, b, c, Wd.ask k a b, Wd.choose c a b, if c = 0 then 1 else 0], 5, 1) := by
  unfold meansL
  by_cases h : c = 0
  · subst h; simp [evalS, rnd, Nd.pure, Nd.step, Nd.go, Nd.isTick]
  · simp [evalS, rnd, Nd.pure, Nd.step, Nd.go, Nd.isTick, h]
theorem means_nodes (w : World) (k : Int) (o1 o2 : Obj) : Nodes (((w.alloc (.cells #[(Nd.bin k 3 0 1).val, (Nd.choose 4 2 0 1).val, (Nd.branch 2 4).val, (Nd.const 5 1).val, Nd.tick.val, (Nd.ret 3).val] 64)).alloc o1).alloc o2) (some ⟨w.heap.size, 0, none⟩) (meansL k) := by
  have hb := ((Blk.new w 64 #[(Nd.bin k 3 0 1).val, (Nd.choose 4 2 0 1).val, (Nd.branch 2 4).val, (Nd.const 5 1).val, Nd.tick.val, (Nd.ret 3).val]).alloc o1).alloc o2
  intro i n hi
  unfold meansL at hi
  match i, hi with
  | 0, hi => cases hi; exact ⟨True.intro, _, _, rfl, hb.cell 0⟩
  | 1, hi => cases hi; exact ⟨True.intro, _, _, rfl, hb.cell 1⟩
  | 2, hi => cases hi; exact ⟨True.intro, _, _, rfl, hb.cell 2⟩
  | 3, hi => cases hi; exact ⟨by constructor <;> decide, _, _, rfl, hb.cell 3⟩
  | 4, hi => cases hi; exact ⟨True.intro, _, _, rfl, hb.cell 4⟩
  | 5, hi => cases hi; exact ⟨True.intro, _, _, rfl, hb.cell 5⟩
  | i + 6, hi => simp at hi
theorem means_regs (w : World) (a b c : Int) (g : Nat) (hg : g = w.heap.size) : Ints .i32 (w.alloc (.cells #[.int .i32 a, .int .i32 b, .int .i32 c, .int .i32 0, .int .i32 0, .int .i32 0] 21)) (.slice (some ⟨g, 0, none⟩) 6 6) [a, b, c, 0, 0, 0] := by
  subst hg
  have hb := Blk.new w 21 #[.int .i32 a, .int .i32 b, .int .i32 c, .int .i32 0, .int .i32 0, .int .i32 0]
  refine ⟨_, 6, rfl, by simp, fun i x hi => ?_⟩
  match i, hi with
  | 0, hi => cases hi; exact ⟨_, _, rfl, hb.cell 0⟩
  | 1, hi => cases hi; exact ⟨_, _, rfl, hb.cell 1⟩
  | 2, hi => cases hi; exact ⟨_, _, rfl, hb.cell 2⟩
  | 3, hi => cases hi; exact ⟨_, _, rfl, hb.cell 3⟩
  | 4, hi => cases hi; exact ⟨_, _, rfl, hb.cell 4⟩
  | 5, hi => cases hi; exact ⟨_, _, rfl, hb.cell 5⟩
  | i + 6, hi => simp at hi
theorem sign_at (op : Int) : ∃ T, binS T = true ∧ ∀ w, (Instr.index 22 (.agg #[.int .i64 6, .int .i64 7, .int .i64 8, .int .i64 9, .int .i64 10, .int .i64 11, .int .i64 12, .int .i64 13, .int .i64 14, .int .i64 19, .int .i64 20, .int .i64 21]) (.int .i64 (op % 12))).run Try.prog w = .ok (.int .i64 T) w := by
  have h : op % 12 = 0 ∨ op % 12 = 1 ∨ op % 12 = 2 ∨ op % 12 = 3 ∨ op % 12 = 4 ∨ op % 12 = 5 ∨ op % 12 = 6 ∨ op % 12 = 7 ∨ op % 12 = 8 ∨ op % 12 = 9 ∨ op % 12 = 10 ∨ op % 12 = 11 := by omega
  rcases h with h | h | h | h | h | h | h | h | h | h | h | h <;> rw [h]
  · exact ⟨6, by decide, fun w => by kernel_rfl⟩
  · exact ⟨7, by decide, fun w => by kernel_rfl⟩
  · exact ⟨8, by decide, fun w => by kernel_rfl⟩
  · exact ⟨9, by decide, fun w => by kernel_rfl⟩
  · exact ⟨10, by decide, fun w => by kernel_rfl⟩
  · exact ⟨11, by decide, fun w => by kernel_rfl⟩
  · exact ⟨12, by decide, fun w => by kernel_rfl⟩
  · exact ⟨13, by decide, fun w => by kernel_rfl⟩
  · exact ⟨14, by decide, fun w => by kernel_rfl⟩
  · exact ⟨19, by decide, fun w => by kernel_rfl⟩
  · exact ⟨20, by decide, fun w => by kernel_rfl⟩
  · exact ⟨21, by decide, fun w => by kernel_rfl⟩
theorem Nodes.drewq {w : World} {A : Option Addr} {l : List Nd} (h : Nodes w A l) : Nodes w.drew A l := h.keep ⟨rfl, rfl, rfl, Nat.le_refl _, fun _ _ => rfl⟩
theorem S_keep {w w' : World} {b g : Nat} {x0 x1 x2 y0 y2 y3 y4 y5 : Value} (h : (w.cell? ⟨b, 0, none⟩ = some x0 ∧ w.cell? ⟨b, 1, none⟩ = some x1 ∧ w.cell? ⟨b, 2, none⟩ = some x2) ∧ w.cell? ⟨g, 0, none⟩ = some y0 ∧ w.cell? ⟨g, 2, none⟩ = some y2 ∧ w.cell? ⟨g, 3, none⟩ = some y3 ∧ w.cell? ⟨g, 4, none⟩ = some y4 ∧ w.cell? ⟨g, 5, none⟩ = some y5) (hb : Below w.drew.heap.size w.drew w') :
    (w'.cell? ⟨b, 0, none⟩ = some x0 ∧ w'.cell? ⟨b, 1, none⟩ = some x1 ∧ w'.cell? ⟨b, 2, none⟩ = some x2) ∧ w'.cell? ⟨g, 0, none⟩ = some y0 ∧ w'.cell? ⟨g, 2, none⟩ = some y2 ∧ w'.cell? ⟨g, 3, none⟩ = some y3 ∧ w'.cell? ⟨g, 4, none⟩ = some y4 ∧ w'.cell? ⟨g, 5, none⟩ = some y5 := by
  obtain ⟨⟨h0, h1, h2⟩, k0, k2, k3, k4, k5⟩ := h
  have key : ∀ (p : Addr) (v : Value), w.cell? p = some v → w'.cell? p = some v := fun p v hp => by
    have hp' : w.drew.cell? p = some v := hp
    rw [hb.cell (World.block_lt_of_cell? _ _ hp')]; exact hp'
  exact ⟨⟨key _ _ h0, key _ _ h1, key _ _ h2⟩, key _ _ k0, key _ _ k2, key _ _ k3, key _ _ k4, key _ _ k5⟩
set_option maxHeartbeats 16000000 in
set_option maxRecDepth 100000 in
theorem irMeans_walk (op a b c : Int) (ha : Wd.R a) (hb : Wd.R b) (hc : Wd.R c) (w : World) :
    Calls Try.prog 3 #[.int .i64 op, .int .i32 a, .int .i32 b, .int .i32 c] w fun e w' => e = .returned (.bool true) ∧ Below w.heap.size w w' := by
  obtain ⟨T, hT, hi⟩ := sign_at op
  have HCK := Lib.hid (means_check hT)
  have hev := means_eval T a b c
  obtain ⟨sk, hsk⟩ : ∃ sk : Int, (if c = 0 then 1 else 0) = sk := ⟨_, rfl⟩
  rw [hsk] at hev
  have HEV := Lib.hid hev
  have HSK := Lib.hid hsk
  clear hev hsk
  have HT := Lib.hid hT
  have HA := Lib.hid ha; have HB := Lib.hid hb; have HC := Lib.hid hc
  clear hT ha hb hc
  go_enter Try.func3, Try.ntmps3
  go_wp2_with fail
  refine (pickN op 12 (by decide) (by decide) _).mono ?_
  rintro e w' ⟨rfl, rfl⟩
  go_wp2_with fail
  obtain ⟨w3, hw3⟩ : ∃ w3, w3 = (((w.alloc (.cells #[(Nd.bin T 3 0 1).val, (Nd.choose 4 2 0 1).val, (Nd.branch 2 4).val, (Nd.const 5 1).val, Nd.tick.val, (Nd.ret 3).val] 64)).alloc (.cells #[.int .i64 0, .int .i64 6, .slice (some ⟨w.heap.size, 0, none⟩) 6 6] 38)).alloc (.cells #[.int .i32 a, .int .i32 b, .int .i32 c, .int .i32 0, .int .i32 0, .int .i32 0] 21)) := ⟨_, rfl⟩
  have hnodes : Nodes w3 (some ⟨w.heap.size, 0, none⟩) (meansL T) := by rw [hw3]; exact means_nodes w T _ _
  have hregs : Ints .i32 w3 (.slice (some ⟨w.heap.size + 1 + 1, 0, none⟩) 6 6) [a, b, c, 0, 0, 0] := by rw [hw3]; exact means_regs _ a b c _ (by simp)
  have hprog : Blk w3 (w.heap.size + 1) 38 #[.int .i64 0, .int .i64 6, .slice (some ⟨w.heap.size, 0, none⟩) 6 6] := by
    rw [hw3]
    have h1 := Blk.new (w.alloc (.cells #[(Nd.bin T 3 0 1).val, (Nd.choose 4 2 0 1).val, (Nd.branch 2 4).val, (Nd.const 5 1).val, Nd.tick.val, (Nd.ret 3).val] 64)) 38 #[.int .i64 0, .int .i64 6, .slice (some ⟨w.heap.size, 0, none⟩) 6 6]
    have h2 : (w.alloc (.cells #[(Nd.bin T 3 0 1).val, (Nd.choose 4 2 0 1).val, (Nd.branch 2 4).val, (Nd.const 5 1).val, Nd.tick.val, (Nd.ret 3).val] 64)).heap.size = w.heap.size + 1 := by simp
    rw [h2] at h1
    exact h1.alloc _
  have hbel : Below w.heap.size w w3 := by rw [hw3]; exact (((Below.refl _ _).alloc (Nat.le_refl _) _).alloc (by simp) _).alloc (by simp; omega) _
  show Calls Try.prog 6 #[.agg #[.int .i64 0, .int .i64 6, .slice (some ⟨w.heap.size, 0, none⟩) 6 6], .slice (some ⟨w.heap.size + 1 + 1, 0, none⟩) 6 6, .int .i64 0, .int .i64 99] (((w.alloc (.cells #[(Nd.bin T 3 0 1).val, (Nd.choose 4 2 0 1).val, (Nd.branch 2 4).val, (Nd.const 5 1).val, Nd.tick.val, (Nd.ret 3).val] 64)).alloc (.cells #[.int .i64 0, .int .i64 6, .slice (some ⟨w.heap.size, 0, none⟩) 6 6] 38)).alloc (.cells #[.int .i32 a, .int .i32 b, .int .i32 c, .int .i32 0, .int .i32 0, .int .i32 0] 21)) _
  rw [← hw3]
  clear hw3
  have HN3 := Lib.hid hnodes; have HP3 := Lib.hid hprog; have HB3 := Lib.hid hbel; have HG3 := Lib.hid hregs
  clear hnodes hprog hbel hregs
  refine (eval_c 0 (some ⟨w.heap.size, 0, none⟩) (some ⟨w.heap.size + 1 + 1, 0, none⟩) 6 6 (meansL T) [a, b, c, 0, 0, 0] 0 99 (by show inS 0 ((6 : Nat) : Int) = true; decide) (by decide) w3 HN3.out HCK.out HG3.out (by
    intro x hx
    simp at hx
    rcases hx with rfl | rfl | rfl | rfl
    · exact HA.out
    · exact HB.out
    · exact HC.out
    · unfold Wd.R; simp)).mono ?_
  rintro e w4 ⟨v, rfl, hr, hb⟩
  have h99 : (99 : Int).toNat = 99 := rfl
  rw [h99, HEV.out] at hr ⊢
  obtain ⟨g, cv, rfl, h1, h2, h3, cur, hg, hcs, hcur⟩ := Regs.at hr (k := 0) (by simp)
  have HG4 := Lib.hid hg
  have e0 : cur[0]? = some (.int .i32 a) := hcur 0 (by simp)
  have e2 : cur[2]? = some (.int .i32 c) := hcur 2 (by simp)
  have e3 : cur[3]? = some (.int .i32 (Wd.ask T a b)) := hcur 3 (by simp)
  have e4 : cur[4]? = some (.int .i32 (Wd.choose c a b)) := hcur 4 (by simp)
  have e5 : cur[5]? = some (.int .i32 sk) := hcur 5 (by simp)
  have HE : Hid (cur[0]? = some (.int .i32 a) ∧ cur[2]? = some (.int .i32 c) ∧ cur[3]? = some (.int .i32 (Wd.ask T a b)) ∧ cur[4]? = some (.int .i32 (Wd.choose c a b)) ∧ cur[5]? = some (.int .i32 sk)) := ⟨e0, e2, e3, e4, e5⟩
  have HB4 := Lib.hid (HB3.out.trans (hb.mono HB3.out.size))
  have HN4 := Lib.hid (HN3.out.keep hb)
  have HP4 := Lib.hid (HP3.out.only (S := fun _ => False) (Only.of_below hb) id)
  have hgl : Hid (w.heap.size ≤ g) := by have := HB3.out.size; show _ ≤ _; omega
  dsimp only [List.length] at h1
  clear hr hb hg hcs hcur e0 e2 e3 e4 e5 HN3 HP3 HB3 HG3 HEV h99 h3
  dsimp only
  go_wp2_with fail
  refine (known_c _).mono ?_
  rintro e w5 ⟨rfl, hb⟩
  have HB5 := Lib.hid (HB4.out.trans (hb.mono HB4.out.size))
  have HN5 := Lib.hid (HN4.out.keep hb)
  have hp5 := HP4.out.only (S := fun _ => False) (Only.of_below hb) id
  have HP5 := Lib.hid hp5
  have HG5 := Lib.hid (HG4.out.only (S := fun _ => False) (Only.of_below hb) id)
  have p0 := hp5.cell 0
  have p1 := hp5.cell 1
  have p2 := hp5.cell 2
  simp at p0 p1 p2
  clear hb hp5 HB4 HN4 HP4 HG4
  have hchk : Hid (∀ wq, Nodes wq (some ⟨w.heap.size, 0, none⟩) (meansL T) → Calls Try.prog 8 #[.agg #[.int .i64 0, .int .i64 6, .slice (some ⟨w.heap.size, 0, none⟩) 6 6]] wq fun e w' => e = .returned (.bool true) ∧ Below wq.heap.size wq w') := fun wq h => (check_c 0 6 _ 6 (meansL T) wq h).mono fun e w' h => by
    obtain ⟨b6, rfl, h1, h2⟩ := h
    obtain rfl : b6 = true := h1.mpr HCK.out
    exact ⟨rfl, h2⟩
  have hdo : Hid (∀ wq, Calls Try.prog 9 #[.int .i64 T, .int .i32 a, .int .i32 b] wq fun e w' => e = .returned (.int .i32 (Wd.ask T a b)) ∧ wq = w') := fun wq => refDo_c T a b HT.out HA.out HB.out wq
  generalize Wd.ask T a b = r at *
  by_cases hc0 : c = 0
  · subst hc0
    have hch : Wd.choose 0 a b = b := rfl
    rw [hch] at HE
    have hsk := HSK.out
    rw [if_pos rfl] at hsk
    subst hsk
    clear hch HSK
    obtain ⟨k0, k2, k3, k4, k5⟩ := HE.out
    have kf := And.intro (And.intro p0 (And.intro p1 p2)) (And.intro ((HG5.out.cell 0).trans k0) (And.intro ((HG5.out.cell 2).trans k2) (And.intro ((HG5.out.cell 3).trans k3) (And.intro ((HG5.out.cell 4).trans k4) ((HG5.out.cell 5).trans k5)))))
    clear k0 k2 k3 k4 k5
    go_wp2_with fail
    go_region_held3 (fun w' => (w'.cell? ⟨w.heap.size + 1, 0, none⟩ = some (.int .i64 0) ∧ w'.cell? ⟨w.heap.size + 1, 1, none⟩ = some (.int .i64 6) ∧ w'.cell? ⟨w.heap.size + 1, 2, none⟩ = some (.slice (some ⟨w.heap.size, 0, none⟩) 6 6)) ∧ w'.cell? ⟨g, 0, none⟩ = some (.int .i32 a) ∧ w'.cell? ⟨g, 2, none⟩ = some (.int .i32 0) ∧ w'.cell? ⟨g, 3, none⟩ = some (.int .i32 r) ∧ w'.cell? ⟨g, 4, none⟩ = some (.int .i32 b) ∧ w'.cell? ⟨g, 5, none⟩ = some (.int .i32 1)) (first | exact kf | exact kg)
      (first | (go_at_call 8; refine (hchk.out _ HN5.out.drewq).mono ?_; rintro e w6 ⟨rfl, hw6⟩; have kg := S_keep kf hw6) | (go_at_call 9; refine (hdo.out _).mono ?_; rintro e w7 ⟨rfl, rfl⟩))
    go_wp2_with fail
    go_ret
    have hx := (HB5.out.trans (show Below w.heap.size w5 w5.drew from ⟨rfl, rfl, rfl, Nat.le_refl _, fun _ _ => rfl⟩)).trans (hw6.mono HB5.out.size)
    exact ⟨rfl, hx⟩
  · have hc1 : (c != 0) = true := by simp [hc0]
    have hch : Wd.choose c a b = a := if_neg hc0
    rw [hch] at HE
    have hsk := HSK.out
    rw [if_neg hc0] at hsk
    subst hsk
    clear hch HSK
    obtain ⟨k0, k2, k3, k4, k5⟩ := HE.out
    have kf := And.intro (And.intro p0 (And.intro p1 p2)) (And.intro ((HG5.out.cell 0).trans k0) (And.intro ((HG5.out.cell 2).trans k2) (And.intro ((HG5.out.cell 3).trans k3) (And.intro ((HG5.out.cell 4).trans k4) ((HG5.out.cell 5).trans k5)))))
    clear k0 k2 k3 k4 k5
    go_wp2_with fail
    go_region_held3 (fun w' => (w'.cell? ⟨w.heap.size + 1, 0, none⟩ = some (.int .i64 0) ∧ w'.cell? ⟨w.heap.size + 1, 1, none⟩ = some (.int .i64 6) ∧ w'.cell? ⟨w.heap.size + 1, 2, none⟩ = some (.slice (some ⟨w.heap.size, 0, none⟩) 6 6)) ∧ w'.cell? ⟨g, 0, none⟩ = some (.int .i32 a) ∧ w'.cell? ⟨g, 2, none⟩ = some (.int .i32 c) ∧ w'.cell? ⟨g, 3, none⟩ = some (.int .i32 r) ∧ w'.cell? ⟨g, 4, none⟩ = some (.int .i32 a) ∧ w'.cell? ⟨g, 5, none⟩ = some (.int .i32 0)) (first | exact kf | exact kg)
      (first | (go_at_call 8; refine (hchk.out _ HN5.out.drewq).mono ?_; rintro e w6 ⟨rfl, hw6⟩; have kg := S_keep kf hw6) | (go_at_call 9; refine (hdo.out _).mono ?_; rintro e w7 ⟨rfl, rfl⟩))
    go_wp2_with fail
    go_ret
    have hx := (HB5.out.trans (show Below w.heap.size w5 w5.drew from ⟨rfl, rfl, rfl, Nat.le_refl _, fun _ _ => rfl⟩)).trans (hw6.mono HB5.out.size)
    exact ⟨rfl, hx⟩
theorem irMeans_top (v0 v1 v2 v3 : Value) (w : World) (u0 : Vw.Arg Try.prog w 3 v0) (u1 : Vw.Arg Try.prog w 21 v1) (u2 : Vw.Arg Try.prog w 21 v2) (u3 : Vw.Arg Try.prog w 21 v3) :
    Calls Try.prog 3 #[v0, v1, v2, v3] w fun e w' => e = .returned (.bool true) ∧ Below w.heap.size w w' := by
  obtain ⟨op, rfl, _⟩ := Vw.Arg.int Try.underlying3 u0
  obtain ⟨a, rfl, ha⟩ := Vw.Arg.int Try.underlying21 u1
  obtain ⟨b, rfl, hb⟩ := Vw.Arg.int Try.underlying21 u2
  obtain ⟨c, rfl, hc⟩ := Vw.Arg.int Try.underlying21 u3
  exact irMeans_walk op a b c (Wd.wf_R ha) (Wd.wf_R hb) (Wd.wf_R hc) w
end Go.Proofs.Ytilifniflpbbkaa
