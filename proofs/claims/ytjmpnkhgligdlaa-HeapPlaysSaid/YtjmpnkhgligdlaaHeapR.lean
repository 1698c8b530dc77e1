/- The document's heap (taciturnref8): Used, At; Alloc where it makes nothing. -/
import Derived.Test.YtjmpnkhgligdlaaHeap3
namespace Go.Proofs.Ytjmpnkhgligdlaa
open Go.RowKit On Hv Go.Sort
/-- the document's heap, with its list -/
def AtR (w : World) (B p : Nat) (sz : Int) (L : List Ar) (F : Nat → Prop) : Prop := At 5 37 49 w B p sz L F
theorem usedR_c (w : World) (B p : Nat) (sz : Int) (L : List Ar) (F : Nat → Prop) (h : AtR w B p sz L F) :
    Calls Try.prog 41 #[.pointer (some ⟨p, 0, none⟩)] w fun e w' => e = .returned (.int .i64 (used L)) ∧ Below w.heap.size w w' := by
  obtain ⟨q, c, R, h1, h2, h3, h4, h5, h6, h7, h8, h9, h10, h11⟩ := h.open
  have hlen := h5.len
  have htwo := h5.two
  obtain ⟨n, hn⟩ : ∃ n, L.length = n + 2 := ⟨L.length - 2, by omega⟩
  rw [hn] at h1 h8
  have hc := h1.blk.cell 1
  simp at hc
  have hbd : Hid (∀ k, 0 ≤ sizes ((L.drop 2).take k) ∧ sizes ((L.drop 2).take k) ≤ 4096) := by
    intro k; have := sizes_take_le (L.drop 2) k; have := h5.room; have := h5.most; unfold used at *; omega
  have hn5 : (n : Int) ≤ 512 := by omega
  have hcells : Hid (∀ k, k < n → ∃ a A m cD, L[k + 2]? = some a ∧ a.data.length = m ∧ m ≤ 64 ∧ w.cell? ⟨q, (k + 2) * 5 + 4, none⟩ = some (.slice A m cD)) := by
    intro k hk
    have hk2 : k + 2 < L.length := by omega
    obtain ⟨D, hx⟩ := map_get h3 (List.getElem?_eq_getElem hk2)
    obtain ⟨A, cD, hD, _⟩ := (h1.dat _ _ hx).slice
    simp only at hD
    refine ⟨_, A, _, cD, List.getElem?_eq_getElem hk2, rfl, h5.data _ (List.getElem_mem hk2), ?_⟩
    have := h1.cell rfl hx (show 4 < 5 by omega)
    rw [this, cells5, ← hD]; rfl
  have hU : Hid (sizes ((L.drop 2).take n) = used L) := by
    unfold Hid used; rw [List.take_of_length_le (by simp; omega)]
  clear h1 h2 h3 h4 h5 h6 h7 hlen htwo hn h9
  go_enter Try.func41, Try.ntmps41
  go_wp2_with fail
  go_loop [3, 4] (fun s i => ∃ k : Nat, k ≤ n ∧ i = .int .i64 ((k : Int) + 2) ∧ s = .int .i64 (sizes ((L.drop 2).take k))) (fun _ i => n + 2 - (intOf i).toNat)
  case atStart => exact ⟨0, Nat.zero_le _, rfl, rfl⟩
  case round =>
    obtain ⟨k, hk, rfl, rfl⟩ := hrel
    by_cases hlt : k < n
    · obtain ⟨a, A, m, cD, ha, hm, hm2, c4⟩ := hcells.out k hlt
      have hS : Hid (sizes ((L.drop 2).take (k + 1)) = sizes ((L.drop 2).take k) + (8 + (m : Int))) := by
        unfold Hid; rw [sizes_take _ _ a (by rw [List.getElem?_drop, Nat.add_comm]; exact ha), hm]
      have hb1 := hbd.out k
      clear hm ha
      generalize sizes ((L.drop 2).take k) = S at *
      go_wp2_with fail
      go_round
      case rel => exact ⟨k + 1, by omega, by go_num, by rw [hS.out]; go_num⟩
      case measure => simp [intOf]; omega
    · have : k = n := by omega
      subst this
      go_wp2_with fail
      go_ret
      exact ⟨by rw [← hU.out]; rfl, Below.refl _ _⟩
/-- an array handed out: its bytes are where they were -/
def ArrPostR (w : World) (B : Nat) (x : Ar) (e : Ending) (w' : World) : Prop :=
  ∃ D, e = .returned (.tuple #[.agg #[.int .i64 x.owner, .int .i64 x.label, .int .i64 x.life, .bool x.share, D], .bool true]) ∧ Dw 5 w' B D x.data ∧ Below w.heap.size w w'
theorem atR_yes (w : World) (B p : Nat) (sz : Int) (L : List Ar) (F : Nat → Prop) (h : AtR w B p sz L F) (i : Nat) (a : Ar) (ref : Int) (hi : ref = i + 1) (ha : L[i]? = some a) :
    Calls Try.prog 23 #[.pointer (some ⟨p, 0, none⟩), .int .i64 ref] w (ArrPostR w B a) := by
  obtain ⟨q, c, R, h1, h2, h3, h4, h5, h6, h7, h8, h9, h10, h11⟩ := h.open
  have hlen := h5.len
  obtain ⟨D, hx⟩ := map_get h3 ha
  have hiL : i < L.length := (List.getElem?_eq_some_iff.mp ha).1
  have hc := h1.blk.cell 1
  simp at hc
  have c0 := h1.cell rfl hx (show 0 < 5 by omega)
  have c1 := h1.cell rfl hx (show 1 < 5 by omega)
  have c2 := h1.cell rfl hx (show 2 < 5 by omega)
  have c3 := h1.cell rfl hx (show 3 < 5 by omega)
  have c4 := h1.cell rfl hx (show 4 < 5 by omega)
  simp [cells5] at c0 c1 c2 c3 c4
  have HD : Hid (Dw 5 w B D a.data) := h1.dat i _ hx
  obtain ⟨a1, a2, a3, a4, a5⟩ := a
  simp only at c0 c1 c2 c3 c4 HD
  obtain ⟨A, cD, rfl, _⟩ := HD.out.slice
  subst hi
  have hr2 : (i : Int) + 1 ≤ (L.length : Int) := by omega
  have hn : (L.length : Int) ≤ 1000000 := by omega
  clear h h1 h2 h3 h4 h5 h6 h7 hx ha h9
  go_enter Try.func23, Try.ntmps23
  go_wp2_with fail
  refine bodyPost_ret (v := .tuple #[.agg #[.int .i64 a1, .int .i64 a2, .int .i64 a3, .bool a4, .slice A a5.length cD], .bool true]) (by simp [results, Try.results23, go_sem]) rfl ⟨_, rfl, ?_, ?_⟩
  · exact HD.out.keep (S := fun _ => False) ((Only.refl _ w).alloc _) (fun _ _ h => h)
  · exact (Below.refl _ _).alloc (Nat.le_refl _) _
theorem atR_no (w : World) (B p : Nat) (sz : Int) (L : List Ar) (F : Nat → Prop) (h : AtR w B p sz L F) (ref : Int) (hr : ref < 1 ∨ (L.length : Int) < ref) :
    Calls Try.prog 23 #[.pointer (some ⟨p, 0, none⟩), .int .i64 ref] w fun e w' => e = .returned (.tuple #[.agg #[.int .i64 0, .int .i64 0, .int .i64 0, .bool false, .slice none 0 0], .bool false]) ∧ Below w.heap.size w w' := by
  obtain ⟨q, c, R, h1, _, _, _, _, _, _, _, _, _, h11⟩ := h.open
  have hc := h1.blk.cell 1
  simp at hc
  clear h h1
  by_cases h0 : ref < 1
  · clear hr
    go_enter Try.func23, Try.ntmps23
    go_wp2_with fail
    refine bodyPost_ret (v := .tuple #[.agg #[.int .i64 0, .int .i64 0, .int .i64 0, .bool false, .slice none 0 0], .bool false]) (by simp [results, Try.results23, go_sem]) rfl ⟨rfl, ?_⟩
    exact (Below.refl _ _).alloc (Nat.le_refl _) _
  · have h2 : (L.length : Int) < ref := by omega
    clear hr
    go_enter Try.func23, Try.ntmps23
    go_wp2_with fail
    refine bodyPost_ret (v := .tuple #[.agg #[.int .i64 0, .int .i64 0, .int .i64 0, .bool false, .slice none 0 0], .bool false]) (by simp [results, Try.results23, go_sem]) rfl ⟨rfl, ?_⟩
    exact (Below.refl _ _).alloc (Nat.le_refl _) _
set_option maxHeartbeats 1000000 in
theorem allocR_no (w : World) (B p : Nat) (sz : Int) (L : List Ar) (F : Nat → Prop) (owner label life n : Int) (share : Bool) (h : AtR w B p sz L F) (hn1 : -1000000 ≤ n) (hn2 : n ≤ 1000000) (hf : ¬ Fits sz L label life n) :
    Calls Try.prog 30 #[.pointer (some ⟨p, 0, none⟩), .int .i64 owner, .int .i64 label, .int .i64 life, .bool share, .int .i64 n] w fun e w' => e = .returned (.tuple #[.int .i64 0, .bool false]) ∧ Below w.heap.size w w' := by
  have H := Lib.hid h
  have hc0 : w.cell? ⟨p, 0, none⟩ = some (.int .i64 sz) := by
    obtain ⟨V, R, h1, _⟩ := h; have := h1.blk.cell 0; simpa using this
  have hU0 : 0 ≤ used L := used_ge
  have hU1 := h.good.room
  have hU2 := h.good.most
  unfold Fits at hf
  have CU : Hid (∀ d os, Calls Try.prog 41 #[.pointer (some ⟨p, 0, none⟩)] (grow (redrawn w d) os) fun e w'' => e = .returned (.int .i64 (used L)) ∧ ∃ p : Regrown, w'' = grow (redrawn w p.d) p.os) := fun d os =>
    Calls.regrown_of (usedR_c _ B p sz L F (H.out.below (below_regrown w d os)))
  have hcR : ∀ d os, (grow (redrawn w d) os).cell? ⟨p, 0, none⟩ = some (.int .i64 sz) := fun d os => cell_regrown hc0 d os
  generalize used L = U at *
  clear h
  by_cases l3 : label = 3
  · subst l3
    by_cases t0 : life < 0
    · have d0 : decide (life < 0) = true := by rw [decide_eq_true_iff]; omega
      clear hf
      go_enter Try.func30, Try.ntmps30
      go_wp2_with fail
      refine wp_region_quiet_below (by kernel_rfl) (by kernel_rfl) ?_
      repeat (go_big_quiet_step (exact CU.out _ _))
      refine wpQuiet_nil ?_
      intro w1 hw1
      have hb1 : Below w.heap.size w w1 := by obtain ⟨pr, rfl⟩ := hw1; exact below_regrown _ _ _
      clear hw1 hcR
      go_wp2_with fail
      go_ret2
      exact ⟨rfl, hb1⟩
    · have d0 : decide (life < 0) = false := by rw [decide_eq_false_iff_not]; omega
      by_cases t1 : (2 : Int) < life
      · have d1 : decide ((2 : Int) < life) = true := by rw [decide_eq_true_iff]; omega
        clear hf
        go_enter Try.func30, Try.ntmps30
        go_wp2_with fail
        refine wp_region_quiet_below (by kernel_rfl) (by kernel_rfl) ?_
        repeat (go_big_quiet_step (exact CU.out _ _))
        refine wpQuiet_nil ?_
        intro w1 hw1
        have hb1 : Below w.heap.size w w1 := by obtain ⟨pr, rfl⟩ := hw1; exact below_regrown _ _ _
        clear hw1 hcR
        go_wp2_with fail
        go_ret2
        exact ⟨rfl, hb1⟩
      · have d1 : decide ((2 : Int) < life) = false := by rw [decide_eq_false_iff_not]; omega
        by_cases t2 : n < 0
        · have d2 : decide (n < 0) = true := by rw [decide_eq_true_iff]; omega
          clear hf
          go_enter Try.func30, Try.ntmps30
          go_wp2_with fail
          refine wp_region_quiet_below (by kernel_rfl) (by kernel_rfl) ?_
          repeat (go_big_quiet_step (exact CU.out _ _))
          refine wpQuiet_nil ?_
          intro w1 hw1
          have hb1 : Below w.heap.size w w1 := by obtain ⟨pr, rfl⟩ := hw1; exact below_regrown _ _ _
          clear hw1 hcR
          go_wp2_with fail
          go_ret2
          exact ⟨rfl, hb1⟩
        · have d2 : decide (n < 0) = false := by rw [decide_eq_false_iff_not]; omega
          by_cases t3 : (64 : Int) < n
          · have d3 : decide ((64 : Int) < n) = true := by rw [decide_eq_true_iff]; omega
            clear hf
            go_enter Try.func30, Try.ntmps30
            go_wp2_with fail
            refine wp_region_quiet_below (by kernel_rfl) (by kernel_rfl) ?_
            repeat (go_big_quiet_step (exact CU.out _ _))
            refine wpQuiet_nil ?_
            intro w1 hw1
            have hb1 : Below w.heap.size w w1 := by obtain ⟨pr, rfl⟩ := hw1; exact below_regrown _ _ _
            clear hw1 hcR
            go_wp2_with fail
            go_ret2
            exact ⟨rfl, hb1⟩
          · have d3 : decide ((64 : Int) < n) = false := by rw [decide_eq_false_iff_not]; omega
            have d4 : decide (sz - U < 8 + n) = true := by rw [decide_eq_true_iff]; omega
            clear hf
            go_enter Try.func30, Try.ntmps30
            go_wp2_with fail
            refine wp_region_quiet_below (by kernel_rfl) (by kernel_rfl) ?_
            repeat (go_big_quiet_step (exact CU.out _ _))
            refine wpQuiet_nil ?_
            intro w1 hw1
            have hb1 : Below w.heap.size w w1 := by obtain ⟨pr, rfl⟩ := hw1; exact below_regrown _ _ _
            clear hw1 hcR
            go_wp2_with fail
            go_ret2
            exact ⟨rfl, hb1⟩
  · by_cases l4 : label = 4
    · subst l4
      by_cases t0 : life < 0
      · have d0 : decide (life < 0) = true := by rw [decide_eq_true_iff]; omega
        clear hf
        go_enter Try.func30, Try.ntmps30
        go_wp2_with fail
        refine wp_region_quiet_below (by kernel_rfl) (by kernel_rfl) ?_
        repeat (go_big_quiet_step (exact CU.out _ _))
        refine wpQuiet_nil ?_
        intro w1 hw1
        have hb1 : Below w.heap.size w w1 := by obtain ⟨pr, rfl⟩ := hw1; exact below_regrown _ _ _
        clear hw1 hcR
        go_wp2_with fail
        go_ret2
        exact ⟨rfl, hb1⟩
      · have d0 : decide (life < 0) = false := by rw [decide_eq_false_iff_not]; omega
        by_cases t1 : (2 : Int) < life
        · have d1 : decide ((2 : Int) < life) = true := by rw [decide_eq_true_iff]; omega
          clear hf
          go_enter Try.func30, Try.ntmps30
          go_wp2_with fail
          refine wp_region_quiet_below (by kernel_rfl) (by kernel_rfl) ?_
          repeat (go_big_quiet_step (exact CU.out _ _))
          refine wpQuiet_nil ?_
          intro w1 hw1
          have hb1 : Below w.heap.size w w1 := by obtain ⟨pr, rfl⟩ := hw1; exact below_regrown _ _ _
          clear hw1 hcR
          go_wp2_with fail
          go_ret2
          exact ⟨rfl, hb1⟩
        · have d1 : decide ((2 : Int) < life) = false := by rw [decide_eq_false_iff_not]; omega
          by_cases t2 : n < 0
          · have d2 : decide (n < 0) = true := by rw [decide_eq_true_iff]; omega
            clear hf
            go_enter Try.func30, Try.ntmps30
            go_wp2_with fail
            refine wp_region_quiet_below (by kernel_rfl) (by kernel_rfl) ?_
            repeat (go_big_quiet_step (exact CU.out _ _))
            refine wpQuiet_nil ?_
            intro w1 hw1
            have hb1 : Below w.heap.size w w1 := by obtain ⟨pr, rfl⟩ := hw1; exact below_regrown _ _ _
            clear hw1 hcR
            go_wp2_with fail
            go_ret2
            exact ⟨rfl, hb1⟩
          · have d2 : decide (n < 0) = false := by rw [decide_eq_false_iff_not]; omega
            by_cases t3 : (64 : Int) < n
            · have d3 : decide ((64 : Int) < n) = true := by rw [decide_eq_true_iff]; omega
              clear hf
              go_enter Try.func30, Try.ntmps30
              go_wp2_with fail
              refine wp_region_quiet_below (by kernel_rfl) (by kernel_rfl) ?_
              repeat (go_big_quiet_step (exact CU.out _ _))
              refine wpQuiet_nil ?_
              intro w1 hw1
              have hb1 : Below w.heap.size w w1 := by obtain ⟨pr, rfl⟩ := hw1; exact below_regrown _ _ _
              clear hw1 hcR
              go_wp2_with fail
              go_ret2
              exact ⟨rfl, hb1⟩
            · have d3 : decide ((64 : Int) < n) = false := by rw [decide_eq_false_iff_not]; omega
              have d4 : decide (sz - U < 8 + n) = true := by rw [decide_eq_true_iff]; omega
              clear hf
              go_enter Try.func30, Try.ntmps30
              go_wp2_with fail
              refine wp_region_quiet_below (by kernel_rfl) (by kernel_rfl) ?_
              repeat (go_big_quiet_step (exact CU.out _ _))
              refine wpQuiet_nil ?_
              intro w1 hw1
              have hb1 : Below w.heap.size w w1 := by obtain ⟨pr, rfl⟩ := hw1; exact below_regrown _ _ _
              clear hw1 hcR
              go_wp2_with fail
              go_ret2
              exact ⟨rfl, hb1⟩
    · have e3 : (label != 3) = true := by rw [bne_iff_ne]; exact l3
      have e4 : (label != 4) = true := by rw [bne_iff_ne]; exact l4
      clear l3 l4 hf
      go_enter Try.func30, Try.ntmps30
      go_wp2_with fail
      refine wp_region_quiet_below (by kernel_rfl) (by kernel_rfl) ?_
      repeat (go_big_quiet_step (exact CU.out _ _))
      refine wpQuiet_nil ?_
      intro w1 hw1
      have hb1 : Below w.heap.size w w1 := by obtain ⟨pr, rfl⟩ := hw1; exact below_regrown _ _ _
      clear hw1 hcR
      go_wp2_with fail
      go_ret2
      exact ⟨rfl, hb1⟩

end Go.Proofs.Ytjmpnkhgligdlaa
