/- Package heap: Used, Put, SetBuffer, New, Alloc: what they do with a heap of arrays. -/
import Derived.Test.YtjmpnkhgligdlaaHeap
import Derived.Test.YtjmpnkhgligdlaaHs
import Derived.Deep.QuietTactic
import Derived.BigQuiet
import Derived.Deep.RegionHeld3
import Derived.Deep.RegionLaw
import Derived.Lib.QuietBelow
import Derived.StillTailTactics
import Derived.Deep.DeepMust
import Derived.Deep.RegionWith
namespace Go.Proofs.Ytjmpnkhgligdlaa
open Go.RowKit On Hv Go.Sort
/-- the heap of package heap, with its list -/
def AtI (w : World) (B p : Nat) (sz : Int) (L : List Ar) (F : Nat → Prop) : Prop := At 5 37 68 w B p sz L F
theorem put_yes (w : World) (B p : Nat) (sz : Int) (L : List Ar) (F : Nat → Prop) (i j : Nat) (a : Ar) (ref at_ v : Int) (h : AtI w B p sz L F) (ha : L[i]? = some a) (hi : ref = i + 1) (hj : at_ = j) (hd : j < a.data.length) (hv : 0 ≤ v ∧ v ≤ 255) :
    Calls Try.prog 15 #[.pointer (some ⟨p, 0, none⟩), .int .i64 ref, .int .i64 at_, .int .u8 v] w fun e w' => e = .returned (.bool true) ∧ AtI w' B p sz (L.set i (a.with' (a.data.set j v))) F ∧ Only F w w' := by
  obtain ⟨q, c, R, h1, h2, h3, h4, h5, h6, h7, h8, h9, h10, h11⟩ := h.open
  obtain ⟨D, hx⟩ := map_get h3 ha
  have hlen := h5.len
  have hda := h5.data a (List.mem_of_getElem? ha)
  have hiL : i < L.length := (List.getElem?_eq_some_iff.mp ha).1
  have c4 := h1.cell rfl hx (show 4 < 5 by omega)
  simp [cells5] at c4
  obtain ⟨g, cD, hD, hcell, hfr, hdb⟩ := (h1.dat i _ hx).cell hd
  simp only at hD hcell
  rw [hD] at c4
  have e4 : a.data.length ≤ 64 := hda
  have HI : Hid (ref.toNat - 1 = i) := by unfold Hid; omega
  have hr1 : 1 ≤ ref := by omega
  have hr2 : ref ≤ (L.length : Int) := by omega
  have hn : (L.length : Int) ≤ 1000000 := by omega
  have HH : Hid (HpI w B p sz (.slice (some ⟨q, 0, none⟩) L.length c) R) := h1
  have HX := Lib.hid hx
  have HD := Lib.hid hd
  have hfin : Hid (AtI (w.setCell ⟨g, j, none⟩ (.int .u8 v)) B p sz (L.set i (a.with' (a.data.set j v))) F ∧ Only F w (w.setCell ⟨g, j, none⟩ (.int .u8 v))) := by
    obtain ⟨k1, k2, k3, k4⟩ := h1.put (by decide) (by decide) h2 hx hdb j hv
    have hFg : F g := h6 g (.inr (.inr ⟨i, _, hx, hdb⟩))
    refine ⟨⟨_, _, k1, k2, map_set' h3 i _ _, h5.set ha (.inr (by simp [Ar.with'])) (by simpa [Ar.with'] using e4) rfl, fun k hk => h6 k (k3 k hk), fun k hk => ?_⟩, k4.mono (fun k _ e => e ▸ hFg)⟩
    have := h7 k hk
    simp [World.setCell]; omega
  subst hj
  clear h1 h2 h3 h4 h5 h6 h7 h8 h9 hx hi hD ha hda hv
  go_enter Try.func15, Try.ntmps15
  go_wp2_with fail
  refine (get_yes w B p sz q L.length c i j R _ ref (j : Int) HH.out hn hr1 hr2 HX.out HI.out rfl HD.out (by show a.data.length ≤ 1000000; omega)).mono ?_
  rintro e w' ⟨rfl, rfl⟩
  go_wp2_with fail
  refine (at_yes w B p sz q L.length c i R ref HH.out hr1 hr2 hn HI.out).mono ?_
  rintro e w' ⟨rfl, rfl⟩
  go_wp2_with fail
  go_ret
  exact ⟨rfl, hfin.out⟩
theorem usedI_c (w : World) (B p : Nat) (sz : Int) (L : List Ar) (F : Nat → Prop) (h : AtI w B p sz L F) :
    Calls Try.prog 17 #[.pointer (some ⟨p, 0, none⟩)] w fun e w' => e = .returned (.int .i64 (used L)) ∧ Below w.heap.size w w' := by
  obtain ⟨q, c, R, h1, h2, h3, h4, h5, h6, h7, h8, h9, h10, h11⟩ := h.open
  have hlen := h5.len
  have htwo := h5.two
  obtain ⟨n, hn⟩ : ∃ n, L.length = n + 2 := ⟨L.length - 2, by omega⟩
  rw [hn] at h1 h8
  have hc := h1.blk.cell 1
  simp at hc
  have hbd : Hid (∀ k, 0 ≤ sizes ((L.drop 2).take k) ∧ sizes ((L.drop 2).take k) ≤ 4096) := by
    intro k; have := sizes_take_le (L.drop 2) k; have := h5.room; have := h5.most; unfold used at *; omega
  have hn5 : (n : Int) ≤ 512 := by omega
  have hcells : Hid (∀ k, k < n → ∃ a A m cD, L[k + 2]? = some a ∧ a.data.length = m ∧ m ≤ 64 ∧ (∀ j, j < 5 → w.cell? ⟨q, 10 + k * 5 + j, none⟩ = [Value.int .i64 a.owner, .int .i64 a.label, .int .i64 a.life, .bool a.share, .slice A m cD][j]?)) := by
    intro k hk
    have hk2 : k + 2 < L.length := by omega
    obtain ⟨D, hx⟩ := map_get h3 (List.getElem?_eq_getElem hk2)
    obtain ⟨A, cD, hD, _⟩ := (h1.dat _ _ hx).slice
    simp only at hD
    refine ⟨_, A, _, cD, List.getElem?_eq_getElem hk2, rfl, h5.data _ (List.getElem_mem hk2), fun j hj => ?_⟩
    have := h1.cell rfl hx hj
    rw [show (k + 2) * 5 + j = 10 + k * 5 + j by omega] at this
    rw [this, cells5, ← hD]
  have hU : Hid (sizes ((L.drop 2).take n) = used L) := by
    unfold Hid used; rw [List.take_of_length_le (by simp; omega)]
  clear h1 h2 h3 h4 h5 h6 h7 hlen htwo hn h9
  by_cases hcap : c = 2
  · subst hcap
    have : n = 0 := by omega
    subst this
    rw [← hU.out]
    go_enter Try.func17, Try.ntmps17
    go_wp2_with fail
    refine wp_loop_rounds 1 ?_
    rw [rounds_succ]
    go_wp2_with fail
    go_ret
    exact ⟨rfl, Below.refl _ _⟩
  · go_enter Try.func17, Try.ntmps17
    go_wp2_with fail
    go_loopw [3, 12] (fun s i wr => ∃ k : Nat, k ≤ n ∧ i = .int .i64 k ∧ s = .int .i64 (sizes ((L.drop 2).take k)) ∧ Below w.heap.size w wr) (fun _ i _ => n - (intOf i).toNat)
    case atStart => exact ⟨0, Nat.zero_le _, rfl, rfl, Below.refl _ _⟩
    case round =>
      obtain ⟨k, hk, rfl, rfl, hb⟩ := hrel
      have HB := Lib.hid hb; clear hb
      by_cases hlt : k < n
      · obtain ⟨a, A, m, cD, ha, hm, hm2, hcl⟩ := hcells.out k hlt
        have hS : Hid (sizes ((L.drop 2).take (k + 1)) = sizes ((L.drop 2).take k) + (8 + (m : Int))) := by
          unfold Hid; rw [sizes_take _ _ a (by rw [List.getElem?_drop, Nat.add_comm]; exact ha), hm]
        have hcl' : ∀ j, j < 5 → wr.cell? ⟨q, 10 + k * 5 + j, none⟩ = [Value.int .i64 a.owner, .int .i64 a.label, .int .i64 a.life, .bool a.share, .slice A m cD][j]? :=
          fun j hj => (HB.out.cell (p := ⟨q, 10 + k * 5 + j, none⟩) h10).trans (hcl j hj)
        have c0 := hcl' 0 (by omega)
        have c1 := hcl' 1 (by omega)
        have c2 := hcl' 2 (by omega)
        have c3 := hcl' 3 (by omega)
        have c4 := hcl' 4 (by omega)
        simp at c0 c1 c2 c3 c4
        have hb1 := hbd.out k
        have hz := HB.out.size
        clear hcl hcl' hm ha
        generalize sizes ((L.drop 2).take k) = S at *
        have HBn : Hid (Below w.heap.size w (wr.alloc (.cells #[.int .i64 a.owner, .int .i64 a.label, .int .i64 a.life, .bool a.share, .slice A m cD] 37))) := HB.out.alloc hz _
        go_wp2_with fail
        go_roundw
        case rel => exact ⟨k + 1, by omega, by go_num, by rw [hS.out], HBn.out⟩
        case measure => simp [intOf]; omega
      · have : k = n := by omega
        subst this
        go_wp2_with fail
        go_ret
        exact ⟨by rw [← hU.out]; rfl, HB.out⟩
theorem make_bytes (n : Nat) (hn : n ≤ 1000000) : ∀ w : World, (Instr.makeSlice 29 (.int .i64 (n : Int)) (.int .i64 (n : Int))).run Try.prog w = .ok (.slice (some ⟨w.heap.size, 0, none⟩) n n) (w.alloc (.cells (madeCells #[.int .u8 0] n) 5)) := by
  intro w
  obtain ⟨i0, hi0, hz0, hz1, hz2⟩ := info_parts info_u8
  have := run_make (P := Try.prog) w 29 5 i0 _ Try.underlying29 hi0 hz0 .i64 .i64 (n : Int) (n : Int) (by omega) (by omega) (by rw [hz2]; omega) (by omega)
  simp only [Int.toNat_natCast, hz1, Nat.mul_one, Value.cells] at this
  exact this
theorem Dw.made (w : World) (n : Nat) (hn : n ≤ 1000000) : Dw 5 (w.alloc (.cells (madeCells #[.int .u8 0] n) 5)) w.heap.size (.slice (some ⟨w.heap.size, 0, none⟩) n n) (List.replicate n 0) := by
  refine ⟨some ⟨w.heap.size, 0, none⟩, n, by rw [List.length_replicate], nofun, by simp, by unfold maxLen; omega, by simp, fun _ => ⟨w.heap.size, _, rfl, Nat.le_refl _, Blk.new _ _ _, ?_⟩⟩
  rw [toList_madeCells_one, List.length_replicate, List.take_of_length_le (by simp), List.map_replicate]
theorem info_arr : (Try.prog.info? 37).map (fun i => (i.zero, i.size, i.bytes)) = some (some (.agg #[.int .i64 0, .int .i64 0, .int .i64 0, .bool false, .slice none 0 0]), 5, 56) := by kernel_rfl
def AllocPost (w : World) (B p : Nat) (sz : Int) (L' : List Ar) (F : Nat → Prop) (e : Ending) (w' : World) : Prop :=
  e = .returned (.tuple #[.int .i64 L'.length, .bool true]) ∧ AtI w' B p sz L' (More F w w') ∧ Only F w w'
set_option maxHeartbeats 1000000 in
theorem allocI_yes (w : World) (B p : Nat) (sz : Int) (L : List Ar) (F : Nat → Prop) (owner label life n : Int) (share : Bool) (h : AtI w B p sz L F) (hf : Fits sz L label life n) :
    Calls Try.prog 14 #[.pointer (some ⟨p, 0, none⟩), .int .i64 owner, .int .i64 label, .int .i64 life, .bool share, .int .i64 n] w (AllocPost w B p sz (L ++ [fresh owner label life share n]) F) := by
  obtain ⟨i0, hi0, hz0, hz1, hz2⟩ := info_parts info_arr
  have HF := Lib.hid hf
  have H := Lib.hid h
  have hg := h.good
  have hlen := hg.len
  obtain ⟨hl, hl0, hl1, hn0, hn1, hroom⟩ := hf
  have hc0 : w.cell? ⟨p, 0, none⟩ = some (.int .i64 sz) := by
    obtain ⟨V, R, h1, _⟩ := h; have := h1.blk.cell 0; simpa using this
  have hU0 : 0 ≤ used L := used_ge
  have hU1 := hg.room
  have hU2 := hg.most
  have hp := (h.lt h.self).2
  obtain ⟨N, rfl⟩ := Int.eq_ofNat_of_zero_le hn0
  have hmk := make_bytes N (by omega)
  have hd1 : decide (life < 0) = false := by rw [decide_eq_false_iff_not]; omega
  have hd2 : decide ((2 : Int) < life) = false := by rw [decide_eq_false_iff_not]; omega
  have hd3 : decide ((N : Int) < 0) = false := by rw [decide_eq_false_iff_not]; omega
  have hd4 : decide ((64 : Int) < (N : Int)) = false := by rw [decide_eq_false_iff_not]; omega
  generalize hU : used L = U at *
  have HU := Lib.hid hU
  clear hU h hg
  have cU : ∀ d os, Calls Try.prog 17 #[.pointer (some ⟨p, 0, none⟩)] (grow (redrawn w d) os) fun e w'' => e = .returned (.int .i64 U) ∧ ∃ p : Regrown, w'' = grow (redrawn w p.d) p.os := fun d os => by
    rw [← HU.out]; exact Calls.regrown_of (usedI_c _ B p sz L F (H.out.below (below_regrown w d os)))
  have hcR : ∀ d os, (grow (redrawn w d) os).cell? ⟨p, 0, none⟩ = some (.int .i64 sz) := fun d os => cell_regrown hc0 d os
  have CU := Lib.hid cU
  clear cU
  rcases hl with rfl | rfl
  · go_enter Try.func14, Try.ntmps14
    go_wp2_with fail
    refine wp_region_quiet_below (by kernel_rfl) (by kernel_rfl) ?_
    repeat (go_big_quiet_step (exact CU.out _ _))
    refine wpQuiet_nil ?_
    intro w1 hw1
    have hb1 : Below w.heap.size w w1 := by obtain ⟨pr, rfl⟩ := hw1; exact below_regrown _ _ _
    clear hw1
    obtain ⟨q, c, R, h1, h2, h3, h4, h5, h6, h7, h8, h9, h10, h11⟩ := (H.out.below hb1).open
    have hc1 := h1.blk.cell 1
    simp at hc1
    have HB1 := Lib.hid hb1; have H1 : Hid (HpI w1 B p sz (.slice (some ⟨q, 0, none⟩) L.length c) R) := h1
    have hpq : q ≠ p := h1.row_ne_p (by decide) rfl
    have HPQ : Hid (some p ≠ (Value.slice (some ⟨q, 0, none⟩) L.length c).ownBlock) := by unfold Hid; simp [Value.ownBlock]; omega
    have hB2 : B ≤ w1.heap.size := by have := h1.ge; omega
    have HOWN : Hid ((w1.alloc (.cells (madeCells #[.int .u8 0] N) 5)).ownsRow B 37 5 (.slice (some ⟨q, 0, none⟩) L.length c) L.length (flat R)) := by have := h1.row; rw [h4] at this; exact this.alloc _
    have HS : Hid (Src (((w1.alloc (.cells (madeCells #[.int .u8 0] N) 5)).alloc (.cells #[.int .i64 owner, .int .i64 3, .int .i64 life, .bool share, .slice (some ⟨w1.heap.size, 0, none⟩) N N] 37)).drew) (some ⟨w1.heap.size + 1, 0, none⟩) 1 5 [.int .i64 owner, .int .i64 3, .int .i64 life, .bool share, .slice (some ⟨w1.heap.size, 0, none⟩) N N]) := by
      have := Src.block (w1.alloc (.cells (madeCells #[.int .u8 0] N) 5)) 37 5 [.int .i64 owner, .int .i64 3, .int .i64 life, .bool share, .slice (some ⟨w1.heap.size, 0, none⟩) N N] rfl (by simp [Value.oneCell']) (0, 0)
      rw [World.size_alloc] at this
      exact ⟨this.len, this.none_, this.cell, this.one⟩
    have H2 := Lib.hid h2; have H3 := Lib.hid h3; have H4 := Lib.hid h4; have H6 := Lib.hid h6
    clear hb1 h1 h2 h3 h4 h5 h6 h7
    go_wp2_with fail
    go_region_law ((refine step_append_at _ (by rfl) _ _ _ (by rfl) B 37 i0 _ 5 56 Try.underlying47 hi0 hz0 hz1 hz2 rfl (by omega) _ L.length (flat R) (by rfl) ((HOWN.out.alloc _).drew) (some ⟨w1.heap.size + 1, 0, none⟩) 1 1 _ (by rfl) HS.out nofun (by unfold maxLen; omega) (by omega) (by simp; omega) ?_; intro A' c' w3 hown3 hg3 hat; have hf3 : w3.frozen? ⟨p, 1, none⟩ = false := (World.frozen?_of_block (a := ⟨p, 1, none⟩) (hg3.block p (by simp; omega) HPQ.out)).trans (by exact ((H1.out.blk.alloc _).alloc _).frozen 1); have hc3 : w3.cell? ⟨p, 1, none⟩ = some (.slice (some ⟨q, 0, none⟩) L.length c) := (World.cell?_of_block (a := ⟨p, 1, none⟩) (hg3.block p (by simp; omega) HPQ.out)).trans (by exact ((H1.out.blk.alloc _).alloc _).cell 1)))
    all_goals
      have HR : Hid (AllocPost w B p sz (L ++ [fresh owner 3 life share (N : Int)]) F (.returned (.tuple #[.int .i64 (L.length + 1 : Nat), .bool true])) (w3.setCell ⟨p, 1, none⟩ (.slice A' (L.length + 1) c'))) := by
        have hgr : ((w1.alloc (.cells (madeCells #[.int .u8 0] N) 5)).alloc (.cells #[.int .i64 owner, .int .i64 3, .int .i64 life, .bool share, .slice (some ⟨w1.heap.size, 0, none⟩) N N] 37)).grownBy w3 (Value.slice (some ⟨q, 0, none⟩) L.length c).ownBlock := ⟨hg3.os, hg3.tape, hg3.output, hg3.size, hg3.block⟩
        have := At.push (a := fresh owner 3 life share (N : Int)) (by decide) (by decide) (by decide) H1.out H2.out H3.out H6.out (fun k hk => H.out.lt hk) HB1.out (H.out.good.push HF.out) (Dw.made w1 N (by omega)) (by rw [H4.out]; exact hown3) hgr hat
        exact ⟨by simp, this⟩
      clear hown3 hg3 hat HOWN HS
      go_wp2_with fail
      go_ret2
      exact HR.out
  · go_enter Try.func14, Try.ntmps14
    go_wp2_with fail
    refine wp_region_quiet_below (by kernel_rfl) (by kernel_rfl) ?_
    repeat (go_big_quiet_step (exact CU.out _ _))
    refine wpQuiet_nil ?_
    intro w1 hw1
    have hb1 : Below w.heap.size w w1 := by obtain ⟨pr, rfl⟩ := hw1; exact below_regrown _ _ _
    clear hw1
    obtain ⟨q, c, R, h1, h2, h3, h4, h5, h6, h7, h8, h9, h10, h11⟩ := (H.out.below hb1).open
    have hc1 := h1.blk.cell 1
    simp at hc1
    have HB1 := Lib.hid hb1; have H1 : Hid (HpI w1 B p sz (.slice (some ⟨q, 0, none⟩) L.length c) R) := h1
    have hpq : q ≠ p := h1.row_ne_p (by decide) rfl
    have HPQ : Hid (some p ≠ (Value.slice (some ⟨q, 0, none⟩) L.length c).ownBlock) := by unfold Hid; simp [Value.ownBlock]; omega
    have hB2 : B ≤ w1.heap.size := by have := h1.ge; omega
    have HOWN : Hid ((w1.alloc (.cells (madeCells #[.int .u8 0] N) 5)).ownsRow B 37 5 (.slice (some ⟨q, 0, none⟩) L.length c) L.length (flat R)) := by have := h1.row; rw [h4] at this; exact this.alloc _
    have HS : Hid (Src (((w1.alloc (.cells (madeCells #[.int .u8 0] N) 5)).alloc (.cells #[.int .i64 owner, .int .i64 4, .int .i64 life, .bool share, .slice (some ⟨w1.heap.size, 0, none⟩) N N] 37)).drew) (some ⟨w1.heap.size + 1, 0, none⟩) 1 5 [.int .i64 owner, .int .i64 4, .int .i64 life, .bool share, .slice (some ⟨w1.heap.size, 0, none⟩) N N]) := by
      have := Src.block (w1.alloc (.cells (madeCells #[.int .u8 0] N) 5)) 37 5 [.int .i64 owner, .int .i64 4, .int .i64 life, .bool share, .slice (some ⟨w1.heap.size, 0, none⟩) N N] rfl (by simp [Value.oneCell']) (0, 0)
      rw [World.size_alloc] at this
      exact ⟨this.len, this.none_, this.cell, this.one⟩
    have H2 := Lib.hid h2; have H3 := Lib.hid h3; have H4 := Lib.hid h4; have H6 := Lib.hid h6
    clear hb1 h1 h2 h3 h4 h5 h6 h7
    go_wp2_with fail
    go_region_law ((refine step_append_at _ (by rfl) _ _ _ (by rfl) B 37 i0 _ 5 56 Try.underlying47 hi0 hz0 hz1 hz2 rfl (by omega) _ L.length (flat R) (by rfl) ((HOWN.out.alloc _).drew) (some ⟨w1.heap.size + 1, 0, none⟩) 1 1 _ (by rfl) HS.out nofun (by unfold maxLen; omega) (by omega) (by simp; omega) ?_; intro A' c' w3 hown3 hg3 hat; have hf3 : w3.frozen? ⟨p, 1, none⟩ = false := (World.frozen?_of_block (a := ⟨p, 1, none⟩) (hg3.block p (by simp; omega) HPQ.out)).trans (by exact ((H1.out.blk.alloc _).alloc _).frozen 1); have hc3 : w3.cell? ⟨p, 1, none⟩ = some (.slice (some ⟨q, 0, none⟩) L.length c) := (World.cell?_of_block (a := ⟨p, 1, none⟩) (hg3.block p (by simp; omega) HPQ.out)).trans (by exact ((H1.out.blk.alloc _).alloc _).cell 1)))
    all_goals
      have HR : Hid (AllocPost w B p sz (L ++ [fresh owner 4 life share (N : Int)]) F (.returned (.tuple #[.int .i64 (L.length + 1 : Nat), .bool true])) (w3.setCell ⟨p, 1, none⟩ (.slice A' (L.length + 1) c'))) := by
        have hgr : ((w1.alloc (.cells (madeCells #[.int .u8 0] N) 5)).alloc (.cells #[.int .i64 owner, .int .i64 4, .int .i64 life, .bool share, .slice (some ⟨w1.heap.size, 0, none⟩) N N] 37)).grownBy w3 (Value.slice (some ⟨q, 0, none⟩) L.length c).ownBlock := ⟨hg3.os, hg3.tape, hg3.output, hg3.size, hg3.block⟩
        have := At.push (a := fresh owner 4 life share (N : Int)) (by decide) (by decide) (by decide) H1.out H2.out H3.out H6.out (fun k hk => H.out.lt hk) HB1.out (H.out.good.push HF.out) (Dw.made w1 N (by omega)) (by rw [H4.out]; exact hown3) hgr hat
        exact ⟨by simp, this⟩
      clear hown3 hg3 hat HOWN HS
      go_wp2_with fail
      go_ret2
      exact HR.out
end Go.Proofs.Ytjmpnkhgligdlaa
