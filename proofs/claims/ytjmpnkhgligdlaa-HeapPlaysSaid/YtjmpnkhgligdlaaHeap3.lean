/- Package heap: Alloc, where it makes nothing; New; SetBuffer; Clear. -/
import Derived.Test.YtjmpnkhgligdlaaHeap2
namespace Go.Proofs.Ytjmpnkhgligdlaa
open Go.RowKit On Hv Go.Sort
set_option maxHeartbeats 1000000 in
theorem allocI_no (w : World) (B p : Nat) (sz : Int) (L : List Ar) (F : Nat → Prop) (owner label life n : Int) (share : Bool) (h : AtI w B p sz L F) (hn1 : -1000000 ≤ n) (hn2 : n ≤ 1000000) (hf : ¬ Fits sz L label life n) :
    Calls Try.prog 14 #[.pointer (some ⟨p, 0, none⟩), .int .i64 owner, .int .i64 label, .int .i64 life, .bool share, .int .i64 n] w fun e w' => e = .returned (.tuple #[.int .i64 0, .bool false]) ∧ Below w.heap.size w w' := by
  have H := Lib.hid h
  have hc0 : w.cell? ⟨p, 0, none⟩ = some (.int .i64 sz) := by
    obtain ⟨V, R, h1, _⟩ := h; have := h1.blk.cell 0; simpa using this
  have hU0 : 0 ≤ used L := used_ge
  have hU1 := h.good.room
  have hU2 := h.good.most
  unfold Fits at hf
  have CU : Hid (∀ d os, Calls Try.prog 17 #[.pointer (some ⟨p, 0, none⟩)] (grow (redrawn w d) os) fun e w'' => e = .returned (.int .i64 (used L)) ∧ ∃ p : Regrown, w'' = grow (redrawn w p.d) p.os) := fun d os =>
    Calls.regrown_of (usedI_c _ B p sz L F (H.out.below (below_regrown w d os)))
  have hcR : ∀ d os, (grow (redrawn w d) os).cell? ⟨p, 0, none⟩ = some (.int .i64 sz) := fun d os => cell_regrown hc0 d os
  generalize used L = U at *
  clear h
  by_cases l3 : label = 3
  · subst l3
    by_cases t0 : life < 0
    · have d0 : decide (life < 0) = true := by rw [decide_eq_true_iff]; omega
      clear hf
      go_enter Try.func14, Try.ntmps14
      go_wp2_with fail
      refine wp_region_quiet_below (by kernel_rfl) (by kernel_rfl) ?_
      repeat (go_big_quiet_step (exact CU.out _ _))
      refine wpQuiet_nil ?_
      intro w1 hw1
      have hb1 : Below w.heap.size w w1 := by obtain ⟨pr, rfl⟩ := hw1; exact below_regrown _ _ _
      clear hw1 hcR
      go_wp2_with fail
      go_ret2
      exact ⟨rfl, hb1⟩
    · have d0 : decide (life < 0) = false := by rw [decide_eq_false_iff_not]; omega
      by_cases t1 : (2 : Int) < life
      · have d1 : decide ((2 : Int) < life) = true := by rw [decide_eq_true_iff]; omega
        clear hf
        go_enter Try.func14, Try.ntmps14
        go_wp2_with fail
        refine wp_region_quiet_below (by kernel_rfl) (by kernel_rfl) ?_
        repeat (go_big_quiet_step (exact CU.out _ _))
        refine wpQuiet_nil ?_
        intro w1 hw1
        have hb1 : Below w.heap.size w w1 := by obtain ⟨pr, rfl⟩ := hw1; exact below_regrown _ _ _
        clear hw1 hcR
        go_wp2_with fail
        go_ret2
        exact ⟨rfl, hb1⟩
      · have d1 : decide ((2 : Int) < life) = false := by rw [decide_eq_false_iff_not]; omega
        by_cases t2 : n < 0
        · have d2 : decide (n < 0) = true := by rw [decide_eq_true_iff]; omega
          clear hf
          go_enter Try.func14, Try.ntmps14
          go_wp2_with fail
          refine wp_region_quiet_below (by kernel_rfl) (by kernel_rfl) ?_
          repeat (go_big_quiet_step (exact CU.out _ _))
          refine wpQuiet_nil ?_
          intro w1 hw1
          have hb1 : Below w.heap.size w w1 := by obtain ⟨pr, rfl⟩ := hw1; exact below_regrown _ _ _
          clear hw1 hcR
          go_wp2_with fail
          go_ret2
          exact ⟨rfl, hb1⟩
        · have d2 : decide (n < 0) = false := by rw [decide_eq_false_iff_not]; omega
          by_cases t3 : (64 : Int) < n
          · have d3 : decide ((64 : Int) < n) = true := by rw [decide_eq_true_iff]; omega
            clear hf
            go_enter Try.func14, Try.ntmps14
            go_wp2_with fail
            refine wp_region_quiet_below (by kernel_rfl) (by kernel_rfl) ?_
            repeat (go_big_quiet_step (exact CU.out _ _))
            refine wpQuiet_nil ?_
            intro w1 hw1
            have hb1 : Below w.heap.size w w1 := by obtain ⟨pr, rfl⟩ := hw1; exact below_regrown _ _ _
            clear hw1 hcR
            go_wp2_with fail
            go_ret2
            exact ⟨rfl, hb1⟩
          · have d3 : decide ((64 : Int) < n) = false := by rw [decide_eq_false_iff_not]; omega
            have d4 : decide (sz - U < 8 + n) = true := by rw [decide_eq_true_iff]; omega
            clear hf
            go_enter Try.func14, Try.ntmps14
            go_wp2_with fail
            refine wp_region_quiet_below (by kernel_rfl) (by kernel_rfl) ?_
            repeat (go_big_quiet_step (exact CU.out _ _))
            refine wpQuiet_nil ?_
            intro w1 hw1
            have hb1 : Below w.heap.size w w1 := by obtain ⟨pr, rfl⟩ := hw1; exact below_regrown _ _ _
            clear hw1 hcR
            go_wp2_with fail
            go_ret2
            exact ⟨rfl, hb1⟩
  · by_cases l4 : label = 4
    · subst l4
      by_cases t0 : life < 0
      · have d0 : decide (life < 0) = true := by rw [decide_eq_true_iff]; omega
        clear hf
        go_enter Try.func14, Try.ntmps14
        go_wp2_with fail
        refine wp_region_quiet_below (by kernel_rfl) (by kernel_rfl) ?_
        repeat (go_big_quiet_step (exact CU.out _ _))
        refine wpQuiet_nil ?_
        intro w1 hw1
        have hb1 : Below w.heap.size w w1 := by obtain ⟨pr, rfl⟩ := hw1; exact below_regrown _ _ _
        clear hw1 hcR
        go_wp2_with fail
        go_ret2
        exact ⟨rfl, hb1⟩
      · have d0 : decide (life < 0) = false := by rw [decide_eq_false_iff_not]; omega
        by_cases t1 : (2 : Int) < life
        · have d1 : decide ((2 : Int) < life) = true := by rw [decide_eq_true_iff]; omega
          clear hf
          go_enter Try.func14, Try.ntmps14
          go_wp2_with fail
          refine wp_region_quiet_below (by kernel_rfl) (by kernel_rfl) ?_
          repeat (go_big_quiet_step (exact CU.out _ _))
          refine wpQuiet_nil ?_
          intro w1 hw1
          have hb1 : Below w.heap.size w w1 := by obtain ⟨pr, rfl⟩ := hw1; exact below_regrown _ _ _
          clear hw1 hcR
          go_wp2_with fail
          go_ret2
          exact ⟨rfl, hb1⟩
        · have d1 : decide ((2 : Int) < life) = false := by rw [decide_eq_false_iff_not]; omega
          by_cases t2 : n < 0
          · have d2 : decide (n < 0) = true := by rw [decide_eq_true_iff]; omega
            clear hf
            go_enter Try.func14, Try.ntmps14
            go_wp2_with fail
            refine wp_region_quiet_below (by kernel_rfl) (by kernel_rfl) ?_
            repeat (go_big_quiet_step (exact CU.out _ _))
            refine wpQuiet_nil ?_
            intro w1 hw1
            have hb1 : Below w.heap.size w w1 := by obtain ⟨pr, rfl⟩ := hw1; exact below_regrown _ _ _
            clear hw1 hcR
            go_wp2_with fail
            go_ret2
            exact ⟨rfl, hb1⟩
          · have d2 : decide (n < 0) = false := by rw [decide_eq_false_iff_not]; omega
            by_cases t3 : (64 : Int) < n
            · have d3 : decide ((64 : Int) < n) = true := by rw [decide_eq_true_iff]; omega
              clear hf
              go_enter Try.func14, Try.ntmps14
              go_wp2_with fail
              refine wp_region_quiet_below (by kernel_rfl) (by kernel_rfl) ?_
              repeat (go_big_quiet_step (exact CU.out _ _))
              refine wpQuiet_nil ?_
              intro w1 hw1
              have hb1 : Below w.heap.size w w1 := by obtain ⟨pr, rfl⟩ := hw1; exact below_regrown _ _ _
              clear hw1 hcR
              go_wp2_with fail
              go_ret2
              exact ⟨rfl, hb1⟩
            · have d3 : decide ((64 : Int) < n) = false := by rw [decide_eq_false_iff_not]; omega
              have d4 : decide (sz - U < 8 + n) = true := by rw [decide_eq_true_iff]; omega
              clear hf
              go_enter Try.func14, Try.ntmps14
              go_wp2_with fail
              refine wp_region_quiet_below (by kernel_rfl) (by kernel_rfl) ?_
              repeat (go_big_quiet_step (exact CU.out _ _))
              refine wpQuiet_nil ?_
              intro w1 hw1
              have hb1 : Below w.heap.size w w1 := by obtain ⟨pr, rfl⟩ := hw1; exact below_regrown _ _ _
              clear hw1 hcR
              go_wp2_with fail
              go_ret2
              exact ⟨rfl, hb1⟩
    · have e3 : (label != 3) = true := by rw [bne_iff_ne]; exact l3
      have e4 : (label != 4) = true := by rw [bne_iff_ne]; exact l4
      clear l3 l4 hf
      go_enter Try.func14, Try.ntmps14
      go_wp2_with fail
      refine wp_region_quiet_below (by kernel_rfl) (by kernel_rfl) ?_
      repeat (go_big_quiet_step (exact CU.out _ _))
      refine wpQuiet_nil ?_
      intro w1 hw1
      have hb1 : Below w.heap.size w w1 := by obtain ⟨pr, rfl⟩ := hw1; exact below_regrown _ _ _
      clear hw1 hcR
      go_wp2_with fail
      go_ret2
      exact ⟨rfl, hb1⟩

/-- the card's own buffers -/
def buf0 : Ar := ⟨-1, 3, 0, false, []⟩
def buf1 : Ar := ⟨-1, 4, 0, false, []⟩
theorem good_new {sz : Int} (h1 : 0 ≤ sz) (h2 : sz ≤ 4096) : Hv.Good sz [buf0, buf1] :=
  ⟨by simp, by simp [used, sizes]; omega, h2, by simp [buf0, buf1], by simp [buf0, buf1], by
    intro i a hi ha
    match i, hi with
    | 0, _ => simp at ha; subst ha; rfl
    | 1, _ => simp at ha; subst ha; rfl⟩
/-- a heap that is new: its row, its own block -/
theorem at_new {u arrT ty : TypeId} (w : World) (sz : Int) (h1 : 0 ≤ sz) (h2 : sz ≤ 4096) :
    At u arrT ty ((w.alloc (.cells #[.int .i64 (-1), .int .i64 3, .int .i64 0, .bool false, .slice none 0 0, .int .i64 (-1), .int .i64 4, .int .i64 0, .bool false, .slice none 0 0] arrT)).alloc (.cells #[.int .i64 sz, .slice (some ⟨w.heap.size, 0, none⟩) 2 2] ty)) w.heap.size (w.heap.size + 1) sz [buf0, buf1] (fun k => w.heap.size ≤ k ∧ k < w.heap.size + 2) := by
  refine ⟨.slice (some ⟨w.heap.size, 0, none⟩) 2 2, [(buf0, .slice none 0 0), (buf1, .slice none 0 0)], ⟨by omega, ?_, ?_, ?_⟩, ?_, rfl, good_new h1 h2, ?_, ?_⟩
  · have := Blk.new (w.alloc (.cells #[.int .i64 (-1), .int .i64 3, .int .i64 0, .bool false, .slice none 0 0, .int .i64 (-1), .int .i64 4, .int .i64 0, .bool false, .slice none 0 0] arrT)) ty #[.int .i64 sz, .slice (some ⟨w.heap.size, 0, none⟩) 2 2]
    rwa [World.size_alloc] at this
  · exact (World.ownsRow_lit (e := arrT) (size := 5) w _ 2 (Nat.le_refl _) (by unfold maxLen; omega) rfl).alloc _
  · intro i x hx
    match i, hx with
    | 0, hx => simp at hx; subst hx; exact Dw.nil
    | 1, hx => simp at hx; subst hx; exact Dw.nil
  · intro i j x y k hx hy hne hk
    match i, hx with
    | 0, hx => simp at hx; subst hx; simp [dB, buf0] at hk
    | 1, hx => simp at hx; subst hx; simp [dB, buf1] at hk
  · rintro k (rfl | hk | ⟨i, x, hx, hk⟩)
    · omega
    · simp [Value.ownBlock] at hk; omega
    · match i, hx with
      | 0, hx => simp at hx; subst hx; simp [dB, buf0] at hk
      | 1, hx => simp at hx; subst hx; simp [dB, buf1] at hk
  · intro k hk; simp; omega
def NewPost (ty : TypeId) (E : Value → Ending) (w : World) (sz : Int) (e : Ending) (w' : World) : Prop :=
  ∃ p F, e = E (.pointer (some ⟨p, 0, none⟩)) ∧ At 5 37 ty w' w.heap.size p sz [buf0, buf1] F ∧ Below w.heap.size w w'
theorem newI_c (w : World) (sz : Int) (h1 : 64 ≤ sz) (h2 : sz ≤ 4096) :
    Calls Try.prog 11 #[.int .i64 sz] w (NewPost 68 (fun v => .returned (.tuple #[v, .int .i64 0])) w sz) := by
  have HA := Lib.hid (at_new (u := 5) (arrT := 37) (ty := 68) w sz (by omega) h2)
  go_enter Try.func11, Try.ntmps11
  go_wp2
  go_ret2
  exact ⟨_, _, rfl, HA.out, ((Below.refl _ _).alloc (Nat.le_refl _) _).alloc (by simp) _⟩
theorem newI_no (w : World) (sz : Int) (h1 : sz < 64 ∨ 4096 < sz) :
    Calls Try.prog 11 #[.int .i64 sz] w fun e w' => e = .returned (.tuple #[.pointer none, .int .i64 1]) ∧ w = w' := by
  by_cases h : sz < 64
  · clear h1
    go_enter Try.func11, Try.ntmps11
    go_wp2
    go_ret2
    exact ⟨rfl, rfl⟩
  · have h' : 4096 < sz := by omega
    clear h1
    go_enter Try.func11, Try.ntmps11
    go_wp2
    go_ret2
    exact ⟨rfl, rfl⟩
theorem newR_c (w : World) (sz : Int) (h1 : 64 ≤ sz) (h2 : sz ≤ 4096) :
    Calls Try.prog 22 #[.int .i64 sz] w (NewPost 49 .returned w sz) := by
  have HA := Lib.hid (at_new (u := 5) (arrT := 37) (ty := 49) w sz (by omega) h2)
  go_enter Try.func22, Try.ntmps22
  go_wp2
  go_ret
  exact ⟨_, _, rfl, HA.out, ((Below.refl _ _).alloc (Nat.le_refl _) _).alloc (by simp) _⟩
end Go.Proofs.Ytjmpnkhgligdlaa
