/- The document's heap: Alloc, where it makes an array of the second label. -/
import Derived.Test.YtjmpnkhgligdlaaHeapRA
namespace Go.Proofs.Ytjmpnkhgligdlaa
open Go.RowKit On Hv Go.Sort
set_option maxHeartbeats 4000000 in
theorem allocR_yes4 (w : World) (B p : Nat) (sz : Int) (L : List Ar) (F : Nat → Prop) (owner life n : Int) (share : Bool) (h : AtR w B p sz L F) (hf : Fits sz L 4 life n) :
    Calls Try.prog 30 #[.pointer (some ⟨p, 0, none⟩), .int .i64 owner, .int .i64 4, .int .i64 life, .bool share, .int .i64 n] w (AllocPostR w B p sz (L ++ [fresh owner 4 life share n]) F) := by
  obtain ⟨i0, hi0, hz0, hz1, hz2⟩ := info_parts info_arr
  have HF := Lib.hid hf
  have H : Hid (AtR w B p sz L F) := h
  have hg := h.good
  have hlen := hg.len
  obtain ⟨hl, hl0, hl1, hn0, hn1, hroom⟩ := hf
  have hc0 : w.cell? ⟨p, 0, none⟩ = some (.int .i64 sz) := by
    obtain ⟨V, R, h1, _⟩ := h; have := h1.blk.cell 0; simpa using this
  have hU0 : 0 ≤ used L := used_ge
  have hU1 := hg.room
  have hU2 := hg.most
  obtain ⟨N, rfl⟩ := Int.eq_ofNat_of_zero_le hn0
  have hmk := make_bytes N (by omega)
  have hd1 : decide (life < 0) = false := by rw [decide_eq_false_iff_not]; omega
  have hd2 : decide ((2 : Int) < life) = false := by rw [decide_eq_false_iff_not]; omega
  have hd3 : decide ((N : Int) < 0) = false := by rw [decide_eq_false_iff_not]; omega
  have hd4 : decide ((64 : Int) < (N : Int)) = false := by rw [decide_eq_false_iff_not]; omega
  generalize hU : used L = U at *
  have HU := Lib.hid hU
  clear hU h hg hl
  have CU : Hid (∀ d os, Calls Try.prog 41 #[.pointer (some ⟨p, 0, none⟩)] (grow (redrawn w d) os) fun e w'' => e = .returned (.int .i64 U) ∧ ∃ p : Regrown, w'' = grow (redrawn w p.d) p.os) := fun d os => by
    rw [← HU.out]; exact Calls.regrown_of (usedR_c _ B p sz L F (H.out.below (below_regrown w d os)))
  have hcR : ∀ d os, (grow (redrawn w d) os).cell? ⟨p, 0, none⟩ = some (.int .i64 sz) := fun d os => cell_regrown hc0 d os
  go_enter Try.func30, Try.ntmps30
  go_wp2_with fail
  refine wp_region_quiet_below (by kernel_rfl) (by kernel_rfl) ?_
  repeat (go_big_quiet_step (exact CU.out _ _))
  refine wpQuiet_nil ?_
  intro w1 hw1
  have hb1 : Below w.heap.size w w1 := by obtain ⟨pr, rfl⟩ := hw1; exact below_regrown _ _ _
  clear hw1 hcR hc0
  obtain ⟨q, c, R, h1, h2, h3, h4, h5, h6, h7, h8, h9, h10, h11⟩ := (H.out.below hb1).open
  have hc1 := h1.blk.cell 1
  simp at hc1
  have HB1 := Lib.hid hb1; have H1 : Hid (HpV 5 37 49 w1 B p sz (.slice (some ⟨q, 0, none⟩) L.length c) R) := h1
  have hB2 : B ≤ w1.heap.size := by have := h1.ge; omega
  have hp1 : p < w1.heap.size + 1 := by omega
  have hp2 : p < w1.heap.size + 1 + 1 := by omega
  have HSRC : Hid (Src w1 (some ⟨q, 0, none⟩) L.length 5 (flat R)) := by have := h1.row; rw [h4] at this; exact Src.own this (flat_one h1.dat)
  have H2 := Lib.hid h2; have H3 := Lib.hid h3; have H4 := Lib.hid h4; have H6 := Lib.hid h6
  clear hb1 h1 h2 h3 h4 h5 h6 h7
  go_wp2_with fail
  go_region_law (first
    | (refine step_append_at _ (by rfl) (.tmp 49) (.tmp 53) _ (by rfl) B 37 i0 _ 5 56 Try.underlying47 hi0 hz0 hz1 hz2 rfl (by omega) (.slice (some ⟨_, 0, none⟩) 0 0) 0 [] (by rfl) ?_ (some ⟨q, 0, none⟩) L.length c (flat R) (by rfl) ?_ nofun (by unfold maxLen; omega) (by omega) (by simp; omega) ?_
       · exact own_empty (by (repeat (first | (with_reducible refine Blk.drew ?_) | ((with_reducible refine Hv.Blk.new' _ _ _ _ ?_); (simp; done)) | (with_reducible refine Blk.alloc ?_ _)))) (by first | omega | (simp; omega))
       · exact Hv.Src.below HSRC.out (by (repeat (first | exact Below.refl _ _ | assumption | refine belowD ?_ | refine Below.alloc ?_ (by first | omega | (simp; done) | (simp; omega)) _)))
       intro A1 c3 w3 hown3 hg3 hat3
       have hk3 := fun g t cs h hn => blk_grown (g := g) (t := t) (cs := cs) hg3 h hn
       have hbel3 : Below w1.heap.size w1 w3 := Below.grown (by (repeat (first | exact Below.refl _ _ | assumption | refine belowD ?_ | refine Below.alloc ?_ (by first | omega | (simp; done) | (simp; omega)) _))) hg3 (by first | (simp; done) | (simp; omega)) (by simp [Value.ownBlock]; try omega)
       have hz3 : w1.heap.size ≤ w3.heap.size := hbel3.size
       have hv3 := ownblk_ge (n' := L.length) (c' := c3) (b := w1.heap.size) hat3 (by simp [Value.ownBlock]; try omega) (by first | omega | (simp; done) | (simp; omega))
       try simp only [Nat.zero_add, List.nil_append] at hown3
       clear hg3 hat3)
    | (refine step_append_ex _ (by rfl) (.tmp 54) (.tmp 62) _ (by rfl) B 37 i0 _ 5 56 Try.underlying47 hi0 hz0 hz1 hz2 rfl (by omega) (.slice _ L.length _) L.length (flat R) (by rfl) ?_ (some ⟨_, 0, none⟩) 1 1 (by rfl) (by simp) (by unfold maxLen; omega) (by omega) (by first | omega | (simp; omega)) ?_
       · first | exact hown3 | exact hown3.alloc _ | exact (hown3.alloc _).alloc _
       first | (refine ⟨_, Hv.Src.of_blk (t := 37) (cs := #[.int .i64 owner, .int .i64 4, .int .i64 life, .bool share, .slice (some ⟨w1.heap.size, 0, none⟩) N N]) ?_ rfl ?_, ?_⟩; (focus (repeat (first | ((with_reducible refine hk3 _ _ _ ?_ ?_); rotate_left; (focus (first | (simp [Value.ownBlock]; done) | (simp [Value.ownBlock]; omega)))) | (with_reducible refine Blk.drew ?_) | ((with_reducible refine Hv.Blk.new' _ _ _ _ ?_); (focus (simp; done))) | (with_reducible refine Blk.alloc ?_ _)))); simp [Value.oneCell']) | (refine ⟨_, Hv.Src.of_blk (t := 37) (cs := #[.int .i64 owner, .int .i64 4, .int .i64 life, .bool share, .slice (some ⟨w1.heap.size + 1, 0, none⟩) N N]) ?_ rfl ?_, ?_⟩; (focus (repeat (first | ((with_reducible refine hk3 _ _ _ ?_ ?_); rotate_left; (focus (first | (simp [Value.ownBlock]; done) | (simp [Value.ownBlock]; omega)))) | (with_reducible refine Blk.drew ?_) | ((with_reducible refine Hv.Blk.new' _ _ _ _ ?_); (focus (simp; done))) | (with_reducible refine Blk.alloc ?_ _)))); simp [Value.oneCell']) | (refine ⟨_, Hv.Src.of_blk (t := 37) (cs := #[.int .i64 owner, .int .i64 4, .int .i64 life, .bool share, .slice (some ⟨w3.heap.size, 0, none⟩) N N]) ?_ rfl ?_, ?_⟩; (focus (repeat (first | ((with_reducible refine hk3 _ _ _ ?_ ?_); rotate_left; (focus (first | (simp [Value.ownBlock]; done) | (simp [Value.ownBlock]; omega)))) | (with_reducible refine Blk.drew ?_) | ((with_reducible refine Hv.Blk.new' _ _ _ _ ?_); (focus (simp; done))) | (with_reducible refine Blk.alloc ?_ _)))); simp [Value.oneCell'])
       intro A2 c4 w4 hown4 hg4 hat4
       have hk4 := fun g cs h => blk_grown (g := g) (t := 5) (cs := cs) hg4 h (own_ne (by first | exact hown3 | exact hown3.alloc _ | exact (hown3.alloc _).alloc _) h (by decide))
       have hv4 := ownblk_ge (n' := L.length + 1) (c' := c4) (b := w1.heap.size) hat4 hv3 (by first | omega | (simp; done) | (simp; omega))
       have hbel4 : Below w1.heap.size w1 w4 := Below.grown (by (repeat (first | exact Below.refl _ _ | assumption | refine belowD ?_ | refine Below.alloc ?_ (by first | omega | (simp; done) | (simp; omega)) _))) hg4 (by first | omega | (simp; omega)) hv3
       have hp4 := H1.out.blk.only (S := fun _ => False) (Only.of_below hbel4) id
       have hf4 := hp4.frozen 1
       have hc4 := hp4.cell 1
       simp at hc4))
  all_goals
    have HR : Hid (AllocPostR w B p sz (L ++ [fresh owner 4 life share (N : Int)]) F (.returned (.tuple #[.int .i64 (L.length + 1 : Nat), .bool true])) (w4.setCell ⟨p, 1, none⟩ (.slice A2 (L.length + 1) c4))) := by
      refine allocR_fin H1.out H2.out H3.out H4.out H6.out (fun k hk => H.out.lt hk) HB1.out hbel4 (H.out.good.push HF.out) hown4 hv4 (by omega) (by omega) ?_
      refine hk4 _ _ ?_
      (repeat (first | ((with_reducible refine hk3 _ _ _ ?_ ?_); rotate_left; (focus (first | (simp [Value.ownBlock]; done) | (simp [Value.ownBlock]; omega)))) | (with_reducible refine Blk.drew ?_) | ((with_reducible refine Hv.Blk.new' _ _ _ _ ?_); (focus (simp; done))) | (with_reducible refine Blk.alloc ?_ _)))
    clear hown4 hk4 hk3 hv4 hv3 hown3
    go_wp2_with fail
    go_ret2
    exact HR.out
theorem allocR_yes (w : World) (B p : Nat) (sz : Int) (L : List Ar) (F : Nat → Prop) (owner label life n : Int) (share : Bool) (h : AtR w B p sz L F) (hf : Fits sz L label life n) :
    Calls Try.prog 30 #[.pointer (some ⟨p, 0, none⟩), .int .i64 owner, .int .i64 label, .int .i64 life, .bool share, .int .i64 n] w (AllocPostR w B p sz (L ++ [fresh owner label life share n]) F) := by
  rcases hf.1 with rfl | rfl
  · exact allocR_yes3 w B p sz L F owner life n share h hf
  · exact allocR_yes4 w B p sz L F owner life n share h hf
end Go.Proofs.Ytjmpnkhgligdlaa
