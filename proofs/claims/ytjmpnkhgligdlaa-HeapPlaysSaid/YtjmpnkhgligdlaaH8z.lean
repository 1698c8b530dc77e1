/- The walk of HeapPlays. -/
import Derived.Test.YtjmpnkhgligdlaaH8w
namespace Go.Proofs.Ytjmpnkhgligdlaa
open Go.RowKit On Hv By Go.Sort
theorem wrap_u8' (x : Int) : 0 ≤ IntKind.u8.wrap x ∧ IntKind.u8.wrap x ≤ 255 := by
  have h : IntKind.u8.wrap x = x % 256 := by simp [IntKind.wrap, IntKind.bits, IntKind.signed]
  omega
set_option maxHeartbeats 16000000 in
set_option maxRecDepth 100000 in
theorem heapPlays_walk (A : Option Addr) (n c : Nat) (size : Int) (w : World) (hr : Vw.RowsOf w A n 7 (Vw.Viewed Try.prog w 31)) :
    Calls Try.prog 5 #[.int .i64 size, .slice A n c] w fun e w' => e = .returned (.bool true) ∧ Below w.heap.size w w' := by
  have n1 := eql_heap
  have HR := Lib.hid hr; clear hr
  obtain ⟨y, hy⟩ : ∃ y, size % 400 = y := ⟨_, rfl⟩
  have ly : 0 ≤ y := by omega
  have ry : y < 400 := by omega
  obtain ⟨sz, hsz⟩ : ∃ sz, 64 + y = sz := ⟨_, rfl⟩
  have qs : IntKind.i64.wrap (64 + y) = sz := by rw [← hsz]; exact IntWalk.i64_in _ (by omega)
  have hsz1 : 64 ≤ sz := by omega
  have hsz2 : sz ≤ 4096 := by omega
  clear hsz
  go_enter Try.func5, Try.ntmps5
  go_wp2_with fail
  refine (pickN size 400 (by omega) (by omega) w).mono ?_
  rintro e w' ⟨rfl, rfl⟩
  rw [hy]
  clear hy
  go_wp2_with fail
  refine (newI_c w sz hsz1 hsz2).mono ?_
  rintro e w1 ⟨p, F0, rfl, hi, hb1⟩
  have HI1 : Hid (AtI w1 w.heap.size p sz [buf0, buf1] F0) := hi
  have HB1 := Lib.hid hb1
  clear hi hb1
  go_wp2_with fail
  refine (known8_c w1).mono ?_
  rintro e w2 ⟨rfl, hb⟩
  have HI2 : Hid (AtI w2 w.heap.size p sz [buf0, buf1] F0) := HI1.out.below hb
  have HB2 := Lib.hid (HB1.out.trans (hb.mono HB1.out.size))
  clear hb HB1 HI1
  go_wp2_with fail
  refine (newR_c w2 sz hsz1 hsz2).mono ?_
  rintro e w3 ⟨p', G0, rfl, hr2, hb2⟩
  have HT0 : Hid (Two w p p' sz [buf0, buf1] [buf0, buf1] F0 G0 w3) := two_start HI2.out HB2.out hr2 hb2
  clear hr2 hb2 HI2 HB2
  go_wp2_with fail
  go_loopw [8] (fun i wr => ∃ (k : Nat) (L : List Ar) (F G : Nat → Prop), k ≤ n ∧ i = .int .i64 k ∧ Two w p p' sz L L F G wr) (fun i _ => n - (intOf i).toNat)
  case atStart => exact ⟨0, _, _, _, Nat.zero_le _, rfl, HT0.out⟩
  case round =>
    obtain ⟨k, L, F, G, hk, rfl, ht⟩ := hrel
    have HT := Lib.hid ht
    clear ht HT0
    by_cases hlt : k < n
    · by_cases h50 : (k : Int) < 50
      · obtain ⟨b, o, rfl, x1, x2, x3, x4, x5, sh, AX, nX, cX, hX, c0, c1, c2, c3, c4, c5, c6⟩ := step8_cells HR.out HT.out.below hlt
        obtain ⟨xs, hbs, hnc, hcc, hc0'⟩ := viewed_bytes8 hX
        have hc0 := Lib.hid hc0'
        have HK0 : Hid (Blk (wr.alloc (.cells #[.int .i64 x1, .int .i64 x2, .int .i64 x3, .int .i64 x4, .int .i64 x5, .bool sh, .slice AX nX cX] 31)) wr.heap.size 31 #[.int .i64 x1, .int .i64 x2, .int .i64 x3, .int .i64 x4, .int .i64 x5, .bool sh, .slice AX nX cX]) := Blk.new _ _ _
        have hbW : Below wr.heap.size wr (wr.alloc (.cells #[.int .i64 x1, .int .i64 x2, .int .i64 x3, .int .i64 x4, .int .i64 x5, .bool sh, .slice AX nX cX] 31)) := (Below.refl _ _).alloc (Nat.le_refl _) _
        have HXB0 : Hid (Bs (wr.alloc (.cells #[.int .i64 x1, .int .i64 x2, .int .i64 x3, .int .i64 x4, .int .i64 x5, .bool sh, .slice AX nX cX] 31)) AX nX xs) := (hbs.below HT.out.below).below hbW
        have HT1 : Hid (Two w p p' sz L L F G (wr.alloc (.cells #[.int .i64 x1, .int .i64 x2, .int .i64 x3, .int .i64 x4, .int .i64 x5, .bool sh, .slice AX nX cX] 31))) := HT.out.keep hbW
        have hFX : Hid (∀ q, F q ∨ G q → q < wr.heap.size) := fun q hq => HT.out.ge hq
        have hlen := HT.out.i.good.len
        have hllo : 0 ≤ (L.length : Int) := by omega
        have hlhi : (L.length : Int) ≤ 514 := by omega
        obtain ⟨AL, cL, hl⟩ := HT1.out.lens
        clear hX hbs hc0' hbW
        obtain ⟨y1, hy1⟩ : ∃ y, x2 % ((L.length : Int) + 3) = y := ⟨_, rfl⟩
        have ly1 : 0 ≤ y1 := by rw [← hy1]; exact Int.emod_nonneg _ (by omega)
        have ry1 : y1 < (L.length : Int) + 3 := by rw [← hy1]; exact Int.emod_lt_of_pos _ (by omega)
        have cP : Hid (∀ d os, Calls Try.prog 13 #[.int .i64 x2, .int .i64 ((L.length : Int) + 3)] (grow (redrawn (wr.alloc (.cells #[.int .i64 x1, .int .i64 x2, .int .i64 x3, .int .i64 x4, .int .i64 x5, .bool sh, .slice AX nX cX] 31)) d) os) fun e w'' => e = .returned (.int .i64 y1) ∧ ∃ p : Regrown, w'' = grow (redrawn (wr.alloc (.cells #[.int .i64 x1, .int .i64 x2, .int .i64 x3, .int .i64 x4, .int .i64 x5, .bool sh, .slice AX nX cX] 31)) p.d) p.os) := fun d os => Calls.regrown_of ((pickN x2 ((L.length : Int) + 3) (by omega) (by omega) _).mono (fun _ _ ⟨h1, h2⟩ => ⟨by rw [h1, hy1], h2 ▸ Below.refl _ _⟩))
        clear hy1
        have g1 : ∀ d os, (grow (redrawn (wr.alloc (.cells #[.int .i64 x1, .int .i64 x2, .int .i64 x3, .int .i64 x4, .int .i64 x5, .bool sh, .slice AX nX cX] 31)) d) os).cell? ⟨wr.heap.size, 1, none⟩ = some (.int .i64 x2) := fun d os => cell_regrown (by rw [HK0.out.cell]; rfl) d os
        have g2 : ∀ d os, (grow (redrawn (wr.alloc (.cells #[.int .i64 x1, .int .i64 x2, .int .i64 x3, .int .i64 x4, .int .i64 x5, .bool sh, .slice AX nX cX] 31)) d) os).cell? ⟨p', 1, none⟩ = some (.slice AL L.length cL) := fun d os => cell_regrown hl d os
        have q1 : IntKind.i64.wrap ((L.length : Int) + 3) = (L.length : Int) + 3 := IntWalk.i64_in _ (by omega)
        obtain ⟨r, hr⟩ : ∃ r, y1 - 1 = r := ⟨_, rfl⟩
        have q2 : IntKind.i64.wrap (y1 - 1) = r := by rw [← hr]; exact IntWalk.i64_in _ (by omega)
        have hr1 : -1 ≤ r := by omega
        have hr2 : r ≤ (L.length : Int) + 1 := by omega
        clear hr hl
        go_wp2_with fail
        refine wp_region_quiet_below (by kernel_rfl) (by kernel_rfl) ?_
        repeat (go_big_quiet_step (exact cP.out _ _))
        refine wpQuiet_nil ?_
        intro W hW
        have hbW : Below (wr.alloc (.cells #[.int .i64 x1, .int .i64 x2, .int .i64 x3, .int .i64 x4, .int .i64 x5, .bool sh, .slice AX nX cX] 31)).heap.size (wr.alloc (.cells #[.int .i64 x1, .int .i64 x2, .int .i64 x3, .int .i64 x4, .int .i64 x5, .bool sh, .slice AX nX cX] 31)) W := by obtain ⟨pr, rfl⟩ := hW; exact below_regrown _ _ _
        have HT2 : Hid (Two w p p' sz L L F G W) := HT1.out.keep hbW
        have HK : Hid (Blk W wr.heap.size 31 #[.int .i64 x1, .int .i64 x2, .int .i64 x3, .int .i64 x4, .int .i64 x5, .bool sh, .slice AX nX cX]) := HK0.out.only (S := fun _ => False) (Only.of_below hbW) id
        have HXB : Hid (Bs W AX nX xs) := HXB0.out.below hbW
        clear hW hbW g1 g2 q1 cP HK0 HXB0 HT1 c0 c1 c2 c3 c4 c5 c6 q2 ly1 ry1
        have hXlt : wr.heap.size < W.heap.size := HK.out.lt
        clear HT
        generalize wr.heap.size = X at *
        have kx0 : (W).cell? ⟨X, 0, none⟩ = some (.int .i64 x1) := by rw [HK.out.cell]; rfl
        have kx1 : (W).cell? ⟨X, 1, none⟩ = some (.int .i64 x2) := by rw [HK.out.cell]; rfl
        have kx2 : (W).cell? ⟨X, 2, none⟩ = some (.int .i64 x3) := by rw [HK.out.cell]; rfl
        have kx3 : (W).cell? ⟨X, 3, none⟩ = some (.int .i64 x4) := by rw [HK.out.cell]; rfl
        have kx4 : (W).cell? ⟨X, 4, none⟩ = some (.int .i64 x5) := by rw [HK.out.cell]; rfl
        have kx5 : (W).cell? ⟨X, 5, none⟩ = some (.bool sh) := by rw [HK.out.cell]; rfl
        have kx6 : (W).cell? ⟨X, 6, none⟩ = some (.slice AX nX cX) := by rw [HK.out.cell]; rfl
        obtain ⟨y0, hy0⟩ : ∃ y, x1 % 10 = y := ⟨_, rfl⟩
        have ly0 : 0 ≤ y0 := by omega
        have ry0 : y0 < 10 := by omega
        have p0 : Hid (∀ w, Calls Try.prog 13 #[.int .i64 x1, .int .i64 10] w fun e w' => e = .returned (.int .i64 y0) ∧ w = w') := fun w => (pickN x1 10 (by omega) (by omega) w).mono (fun _ _ ⟨h1, h2⟩ => ⟨by rw [h1, hy0], h2⟩)
        clear hy0
        obtain ⟨y2, hy2⟩ : ∃ y, x3 % 12 = y := ⟨_, rfl⟩
        have ly2 : 0 ≤ y2 := by omega
        have ry2 : y2 < 12 := by omega
        have p2 : Hid (∀ w, Calls Try.prog 13 #[.int .i64 x3, .int .i64 12] w fun e w' => e = .returned (.int .i64 y2) ∧ w = w') := fun w => (pickN x3 12 (by omega) (by omega) w).mono (fun _ _ ⟨h1, h2⟩ => ⟨by rw [h1, hy2], h2⟩)
        clear hy2
        obtain ⟨y3, hy3⟩ : ∃ y, x3 % 4 = y := ⟨_, rfl⟩
        have ly3 : 0 ≤ y3 := by omega
        have ry3 : y3 < 4 := by omega
        have p3 : Hid (∀ w, Calls Try.prog 13 #[.int .i64 x3, .int .i64 4] w fun e w' => e = .returned (.int .i64 y3) ∧ w = w') := fun w => (pickN x3 4 (by omega) (by omega) w).mono (fun _ _ ⟨h1, h2⟩ => ⟨by rw [h1, hy3], h2⟩)
        clear hy3
        obtain ⟨y4, hy4⟩ : ∃ y, x4 % 3 = y := ⟨_, rfl⟩
        have ly4 : 0 ≤ y4 := by omega
        have ry4 : y4 < 3 := by omega
        have p4 : Hid (∀ w, Calls Try.prog 13 #[.int .i64 x4, .int .i64 3] w fun e w' => e = .returned (.int .i64 y4) ∧ w = w') := fun w => (pickN x4 3 (by omega) (by omega) w).mono (fun _ _ ⟨h1, h2⟩ => ⟨by rw [h1, hy4], h2⟩)
        clear hy4
        obtain ⟨y5, hy5⟩ : ∃ y, x5 % 70 = y := ⟨_, rfl⟩
        have ly5 : 0 ≤ y5 := by omega
        have ry5 : y5 < 70 := by omega
        have p5 : Hid (∀ w, Calls Try.prog 13 #[.int .i64 x5, .int .i64 70] w fun e w' => e = .returned (.int .i64 y5) ∧ w = w') := fun w => (pickN x5 70 (by omega) (by omega) w).mono (fun _ _ ⟨h1, h2⟩ => ⟨by rw [h1, hy5], h2⟩)
        clear hy5
        obtain ⟨y6, hy6⟩ : ∃ y, x2 % 3 = y := ⟨_, rfl⟩
        have ly6 : 0 ≤ y6 := by omega
        have ry6 : y6 < 3 := by omega
        have p6 : Hid (∀ w, Calls Try.prog 13 #[.int .i64 x2, .int .i64 3] w fun e w' => e = .returned (.int .i64 y6) ∧ w = w') := fun w => (pickN x2 3 (by omega) (by omega) w).mono (fun _ _ ⟨h1, h2⟩ => ⟨by rw [h1, hy6], h2⟩)
        clear hy6
        obtain ⟨y7, hy7⟩ : ∃ y, x4 % 4 = y := ⟨_, rfl⟩
        have ly7 : 0 ≤ y7 := by omega
        have ry7 : y7 < 4 := by omega
        have p7 : Hid (∀ w, Calls Try.prog 13 #[.int .i64 x4, .int .i64 4] w fun e w' => e = .returned (.int .i64 y7) ∧ w = w') := fun w => (pickN x4 4 (by omega) (by omega) w).mono (fun _ _ ⟨h1, h2⟩ => ⟨by rw [h1, hy7], h2⟩)
        clear hy7
        obtain ⟨v, hvq⟩ : ∃ v, IntKind.u8.wrap x4 = v := ⟨_, rfl⟩
        have hv : 0 ≤ v ∧ v ≤ 255 := by rw [← hvq]; exact wrap_u8' x4
        obtain ⟨t, ht⟩ : ∃ t, y2 - 1 = t := ⟨_, rfl⟩
        have qt : IntKind.i64.wrap (y2 - 1) = t := by rw [← ht]; exact IntWalk.i64_in _ (by omega)
        have ht1 : -1 ≤ t := by omega
        have ht2 : t ≤ 10 := by omega
        clear ht
        have qn : IntKind.i64.wrap (y5 - 2) = y5 - 2 := IntWalk.i64_in _ (by omega)
        have ql : IntKind.i64.wrap (2 + y3) = 2 + y3 := IntWalk.i64_in _ (by omega)
        go_wp2_with fail
        refine (p0.out _).mono ?_
        rintro e w' ⟨rfl, rfl⟩
        by_cases h4 : y0 = 4
        · as_aux_lemma =>
            have h4 : y0 = 4 := h4
            subst h4
            go_wp2_with fail
            refine (p2.out _).mono ?_
            rintro e w' ⟨rfl, rfl⟩
            by_cases hin : 1 ≤ r ∧ r ≤ (L.length : Int)
            · obtain ⟨i, hi⟩ : ∃ i : Nat, r = (i : Int) + 1 := ⟨(r - 1).toNat, by omega⟩
              subst hi
              obtain ⟨a, ha⟩ : ∃ a, L[i]? = some a := ⟨L[i]'(by omega), by first | (simp; done) | (simp; omega)⟩
              clear hin
              go_wp2_with fail
              refine (atR_yes W w.heap.size p' sz L G HT2.out.r i a _ (by rfl) ha).mono ?_
              rintro e w3 ⟨D, rfl, hd, hb⟩
              obtain ⟨AD, cD, hDe, _⟩ := hd.slice
              have hDe : D = .slice AD a.data.length cD := hDe
              subst hDe
              have hbA : Below W.heap.size W (w3.alloc (.cells #[.int .i64 a.owner, .int .i64 a.label, .int .i64 a.life, .bool a.share, .slice AD a.data.length cD] 37)) := hb.alloc hb.size _
              have KD : Blk (w3.alloc (.cells #[.int .i64 a.owner, .int .i64 a.label, .int .i64 a.life, .bool a.share, .slice AD a.data.length cD] 37)) w3.heap.size 37 #[.int .i64 a.owner, .int .i64 a.label, .int .i64 a.life, .bool a.share, .slice AD a.data.length cD] := Blk.new _ _ _
              have HT3 : Hid (Two w p p' sz L L F G (w3.alloc (.cells #[.int .i64 a.owner, .int .i64 a.label, .int .i64 a.life, .bool a.share, .slice AD a.data.length cD] 37))) := HT2.out.keep hbA
              have K3 : Blk (w3.alloc (.cells #[.int .i64 a.owner, .int .i64 a.label, .int .i64 a.life, .bool a.share, .slice AD a.data.length cD] 37)) X 31 #[.int .i64 x1, .int .i64 x2, .int .i64 x3, .int .i64 x4, .int .i64 x5, .bool sh, .slice AX nX cX] := HK.out.only (S := fun _ => False) (Only.of_below hbA) id
              have d4 : (w3.alloc (.cells #[.int .i64 a.owner, .int .i64 a.label, .int .i64 a.life, .bool a.share, .slice AD a.data.length cD] 37)).cell? ⟨w3.heap.size, 4, none⟩ = some (.slice AD a.data.length cD) := by rw [KD.cell]; rfl
              have hw3 : W.heap.size ≤ w3.heap.size := hb.size
              have kx3 : (w3.alloc (.cells #[.int .i64 a.owner, .int .i64 a.label, .int .i64 a.life, .bool a.share, .slice AD a.data.length cD] 37)).cell? ⟨X, 3, none⟩ = some (.int .i64 x4) := by rw [K3.cell]; rfl
              clear hd hb hbA
              by_cases hat : 0 ≤ t ∧ t < (a.data.length : Int)
              · obtain ⟨j, hj⟩ := Int.eq_ofNat_of_zero_le hat.1
                subst hj
                have hj0 : (0 : Int) ≤ (j : Int) := by omega
                have hjl : (j : Int) < (a.data.length : Int) := hat.2
                have hjn : j < a.data.length := by omega
                clear hat
                go_wp2_with fail
                refine (put_yes _ w.heap.size p sz L F i j a _ _ v HT3.out.i ha (by rfl) (by rfl) hjn hv).mono ?_
                rintro e w4 ⟨rfl, hi4, hO4⟩
                have HT4 := Lib.hid (HT3.out.put hi4 hO4)
                have K4 : Blk w4 X 31 #[.int .i64 x1, .int .i64 x2, .int .i64 x3, .int .i64 x4, .int .i64 x5, .bool sh, .slice AX nX cX] := K3.only hO4 (fun hf => by have := hFX.out _ (.inl hf); omega)
                have hb5 : Below w4.heap.size w4 (w4.alloc (.cells #[.int .u8 v] 5)) := (Below.refl _ _).alloc (Nat.le_refl _) _
                have HT5 : Hid (Two w p p' sz _ _ _ _ (w4.alloc (.cells #[.int .u8 v] 5))) := HT4.out.keep hb5
                have K5 : Blk (w4.alloc (.cells #[.int .u8 v] 5)) X 31 #[.int .i64 x1, .int .i64 x2, .int .i64 x3, .int .i64 x4, .int .i64 x5, .bool sh, .slice AX nX cX] := K4.alloc _
                have kx3' : (w4).cell? ⟨X, 3, none⟩ = some (.int .i64 x4) := by rw [K4.cell]; rfl
                clear hi4 hO4 hb5
                go_wp2_with fail
                refine (putR_c _ w.heap.size w4.heap.size p' sz L G HT5.out.r i j a _ _ _ [v] (by rfl) (by rfl) ha (dw_one v hv) (by simp; omega)).mono ?_
                rintro e w6 ⟨rfl, hr6, hO6⟩
                rw [puts_one'] at hr6
                have HT6 := Lib.hid (HT5.out.second hr6 hO6)
                have K6 : Blk w6 X 31 #[.int .i64 x1, .int .i64 x2, .int .i64 x3, .int .i64 x4, .int .i64 x5, .bool sh, .slice AX nX cX] := K5.only hO6 (fun hf => by have := hFX.out _ (.inr hf); omega)
                have kx3'' : (w6).cell? ⟨X, 3, none⟩ = some (.int .i64 x4) := by rw [K6.cell]; rfl
                clear hr6 hO6
                have hset : (L.set i (a.with' (a.data.set j v)))[i]? = some (a.with' (a.data.set j v)) := List.getElem?_set_self (List.getElem?_eq_some_iff.mp ha).1
                go_wp2_with fail
                refine (getI_yes _ w.heap.size p sz _ _ HT6.out.i i j (a.with' (a.data.set j v)) _ _ (by rfl) hset (by rfl) (by simpa [Ar.with'] using hjn)).mono ?_
                rintro e w' ⟨he, rfl⟩
                rw [show (a.with' (a.data.set j v)).data.getD j 0 = v from set_get v hjn] at he
                subst he
                go_wp2_with fail
                refine (alike_c _ _ _ p p' sz sz _ _ _ HT6.out.i HT6.out.r).mono ?_
                rintro e w9 ⟨rfl, hb9⟩
                have HT9 := Lib.hid (HT6.out.keep hb9)
                clear hb9
                go_wp2_with fail
                go_roundw
                case rel => exact ⟨k + 1, _, _, _, by omega, by go_num, HT9.out⟩
                case measure => simp [intOf]; omega
              · rcases (show t < 0 ∨ (a.data.length : Int) ≤ t by omega) with hat | hat
                · go_wp2_with fail
                  refine (putI_out _ w.heap.size p sz L F HT3.out.i i a _ _ v (by rfl) ha (.inl hat)).mono ?_
                  rintro e w' ⟨rfl, rfl⟩
                  go_wp2_with fail
                  refine (getI_out _ w.heap.size p sz L F HT3.out.i i a _ _ (by rfl) ha (.inl hat)).mono ?_
                  rintro e w' ⟨rfl, rfl⟩
                  go_wp2_with fail
                  refine (alike_c _ _ _ p p' sz sz _ _ _ HT3.out.i HT3.out.r).mono ?_
                  rintro e w9 ⟨rfl, hb9⟩
                  have HT9 := Lib.hid (HT3.out.keep hb9)
                  clear hb9
                  go_wp2_with fail
                  go_roundw
                  case rel => exact ⟨k + 1, _, _, _, by omega, by go_num, HT9.out⟩
                  case measure => simp [intOf]; omega
                · have hat' : ¬ (t < 0) := by omega
                  go_wp2_with fail
                  refine (putI_out _ w.heap.size p sz L F HT3.out.i i a _ _ v (by rfl) ha (.inr hat)).mono ?_
                  rintro e w' ⟨rfl, rfl⟩
                  go_wp2_with fail
                  refine (getI_out _ w.heap.size p sz L F HT3.out.i i a _ _ (by rfl) ha (.inr hat)).mono ?_
                  rintro e w' ⟨rfl, rfl⟩
                  go_wp2_with fail
                  refine (alike_c _ _ _ p p' sz sz _ _ _ HT3.out.i HT3.out.r).mono ?_
                  rintro e w9 ⟨rfl, hb9⟩
                  have HT9 := Lib.hid (HT3.out.keep hb9)
                  clear hb9
                  go_wp2_with fail
                  go_roundw
                  case rel => exact ⟨k + 1, _, _, _, by omega, by go_num, HT9.out⟩
                  case measure => simp [intOf]; omega
            · have hout : r < 1 ∨ (L.length : Int) < r := by omega
              clear hin
              go_wp2_with fail
              refine (atR_no W w.heap.size p' sz L G HT2.out.r _ hout).mono ?_
              rintro e w3 ⟨rfl, hb⟩
              have hbA : Below W.heap.size W (w3.alloc (.cells #[.int .i64 0, .int .i64 0, .int .i64 0, .bool false, .slice none 0 0] 37)) := hb.alloc hb.size _
              have HT3 : Hid (Two w p p' sz L L F G (w3.alloc (.cells #[.int .i64 0, .int .i64 0, .int .i64 0, .bool false, .slice none 0 0] 37))) := HT2.out.keep hbA
              have K3 : Blk (w3.alloc (.cells #[.int .i64 0, .int .i64 0, .int .i64 0, .bool false, .slice none 0 0] 37)) X 31 #[.int .i64 x1, .int .i64 x2, .int .i64 x3, .int .i64 x4, .int .i64 x5, .bool sh, .slice AX nX cX] := HK.out.only (S := fun _ => False) (Only.of_below hbA) id
              have kx3 : (w3.alloc (.cells #[.int .i64 0, .int .i64 0, .int .i64 0, .bool false, .slice none 0 0] 37)).cell? ⟨X, 3, none⟩ = some (.int .i64 x4) := by rw [K3.cell]; rfl
              clear hb hbA
              go_wp2_with fail
              refine (putI_no _ w.heap.size p sz L F HT3.out.i _ _ v hout).mono ?_
              rintro e w' ⟨rfl, rfl⟩
              go_wp2_with fail
              refine (getI_no _ w.heap.size p sz L F HT3.out.i _ _ hout).mono ?_
              rintro e w' ⟨rfl, rfl⟩
              go_wp2_with fail
              refine (alike_c _ _ _ p p' sz sz _ _ _ HT3.out.i HT3.out.r).mono ?_
              rintro e w9 ⟨rfl, hb9⟩
              have HT9 := Lib.hid (HT3.out.keep hb9)
              clear hb9
              go_wp2_with fail
              go_roundw
              case rel => exact ⟨k + 1, _, _, _, by omega, by go_num, HT9.out⟩
              case measure => simp [intOf]; omega
        · by_cases h5 : y0 = 5
          · as_aux_lemma =>
              subst h5
              go_wp2_with fail
              refine (p2.out _).mono ?_
              rintro e w' ⟨rfl, rfl⟩
              by_cases hin : 1 ≤ r ∧ r ≤ (L.length : Int)
              · obtain ⟨i, hi⟩ : ∃ i : Nat, r = (i : Int) + 1 := ⟨(r - 1).toNat, by omega⟩
                subst hi
                obtain ⟨a, ha⟩ : ∃ a, L[i]? = some a := ⟨L[i]'(by omega), by first | (simp; done) | (simp; omega)⟩
                clear hin
                go_wp2_with fail
                refine (atR_yes W w.heap.size p' sz L G HT2.out.r i a _ (by rfl) ha).mono ?_
                rintro e w3 ⟨D, rfl, hd, hb⟩
                obtain ⟨AD, cD, hDe, _⟩ := hd.slice
                have hDe : D = .slice AD a.data.length cD := hDe
                subst hDe
                have hbA : Below W.heap.size W (w3.alloc (.cells #[.int .i64 a.owner, .int .i64 a.label, .int .i64 a.life, .bool a.share, .slice AD a.data.length cD] 37)) := hb.alloc hb.size _
                have KD : Blk (w3.alloc (.cells #[.int .i64 a.owner, .int .i64 a.label, .int .i64 a.life, .bool a.share, .slice AD a.data.length cD] 37)) w3.heap.size 37 #[.int .i64 a.owner, .int .i64 a.label, .int .i64 a.life, .bool a.share, .slice AD a.data.length cD] := Blk.new _ _ _
                have HT3 : Hid (Two w p p' sz L L F G (w3.alloc (.cells #[.int .i64 a.owner, .int .i64 a.label, .int .i64 a.life, .bool a.share, .slice AD a.data.length cD] 37))) := HT2.out.keep hbA
                have K3 : Blk (w3.alloc (.cells #[.int .i64 a.owner, .int .i64 a.label, .int .i64 a.life, .bool a.share, .slice AD a.data.length cD] 37)) X 31 #[.int .i64 x1, .int .i64 x2, .int .i64 x3, .int .i64 x4, .int .i64 x5, .bool sh, .slice AX nX cX] := HK.out.only (S := fun _ => False) (Only.of_below hbA) id
                have d4 : (w3.alloc (.cells #[.int .i64 a.owner, .int .i64 a.label, .int .i64 a.life, .bool a.share, .slice AD a.data.length cD] 37)).cell? ⟨w3.heap.size, 4, none⟩ = some (.slice AD a.data.length cD) := by rw [KD.cell]; rfl
                have hw3 : W.heap.size ≤ w3.heap.size := hb.size
                have kx3 : (w3.alloc (.cells #[.int .i64 a.owner, .int .i64 a.label, .int .i64 a.life, .bool a.share, .slice AD a.data.length cD] 37)).cell? ⟨X, 3, none⟩ = some (.int .i64 x4) := by rw [K3.cell]; rfl
                clear hd hb hbA
                by_cases hat : 0 ≤ t ∧ t < (a.data.length : Int)
                · obtain ⟨j, hj⟩ := Int.eq_ofNat_of_zero_le hat.1
                  subst hj
                  have hj0 : (0 : Int) ≤ (j : Int) := by omega
                  have hjl : (j : Int) < (a.data.length : Int) := hat.2
                  have hjn : j < a.data.length := by omega
                  clear hat
                  go_wp2_with fail
                  refine (put_yes _ w.heap.size p sz L F i j a _ _ v HT3.out.i ha (by rfl) (by rfl) hjn hv).mono ?_
                  rintro e w4 ⟨rfl, hi4, hO4⟩
                  have HT4 := Lib.hid (HT3.out.put hi4 hO4)
                  have K4 : Blk w4 X 31 #[.int .i64 x1, .int .i64 x2, .int .i64 x3, .int .i64 x4, .int .i64 x5, .bool sh, .slice AX nX cX] := K3.only hO4 (fun hf => by have := hFX.out _ (.inl hf); omega)
                  have hb5 : Below w4.heap.size w4 (w4.alloc (.cells #[.int .u8 v] 5)) := (Below.refl _ _).alloc (Nat.le_refl _) _
                  have HT5 : Hid (Two w p p' sz _ _ _ _ (w4.alloc (.cells #[.int .u8 v] 5))) := HT4.out.keep hb5
                  have K5 : Blk (w4.alloc (.cells #[.int .u8 v] 5)) X 31 #[.int .i64 x1, .int .i64 x2, .int .i64 x3, .int .i64 x4, .int .i64 x5, .bool sh, .slice AX nX cX] := K4.alloc _
                  have kx3' : (w4).cell? ⟨X, 3, none⟩ = some (.int .i64 x4) := by rw [K4.cell]; rfl
                  clear hi4 hO4 hb5
                  go_wp2_with fail
                  refine (putR_c _ w.heap.size w4.heap.size p' sz L G HT5.out.r i j a _ _ _ [v] (by rfl) (by rfl) ha (dw_one v hv) (by simp; omega)).mono ?_
                  rintro e w6 ⟨rfl, hr6, hO6⟩
                  rw [puts_one'] at hr6
                  have HT6 := Lib.hid (HT5.out.second hr6 hO6)
                  have K6 : Blk w6 X 31 #[.int .i64 x1, .int .i64 x2, .int .i64 x3, .int .i64 x4, .int .i64 x5, .bool sh, .slice AX nX cX] := K5.only hO6 (fun hf => by have := hFX.out _ (.inr hf); omega)
                  have kx3'' : (w6).cell? ⟨X, 3, none⟩ = some (.int .i64 x4) := by rw [K6.cell]; rfl
                  clear hr6 hO6
                  have hset : (L.set i (a.with' (a.data.set j v)))[i]? = some (a.with' (a.data.set j v)) := List.getElem?_set_self (List.getElem?_eq_some_iff.mp ha).1
                  go_wp2_with fail
                  refine (getI_yes _ w.heap.size p sz _ _ HT6.out.i i j (a.with' (a.data.set j v)) _ _ (by rfl) hset (by rfl) (by simpa [Ar.with'] using hjn)).mono ?_
                  rintro e w' ⟨he, rfl⟩
                  rw [show (a.with' (a.data.set j v)).data.getD j 0 = v from set_get v hjn] at he
                  subst he
                  go_wp2_with fail
                  refine (alike_c _ _ _ p p' sz sz _ _ _ HT6.out.i HT6.out.r).mono ?_
                  rintro e w9 ⟨rfl, hb9⟩
                  have HT9 := Lib.hid (HT6.out.keep hb9)
                  clear hb9
                  go_wp2_with fail
                  go_roundw
                  case rel => exact ⟨k + 1, _, _, _, by omega, by go_num, HT9.out⟩
                  case measure => simp [intOf]; omega
                · rcases (show t < 0 ∨ (a.data.length : Int) ≤ t by omega) with hat | hat
                  · go_wp2_with fail
                    refine (putI_out _ w.heap.size p sz L F HT3.out.i i a _ _ v (by rfl) ha (.inl hat)).mono ?_
                    rintro e w' ⟨rfl, rfl⟩
                    go_wp2_with fail
                    refine (getI_out _ w.heap.size p sz L F HT3.out.i i a _ _ (by rfl) ha (.inl hat)).mono ?_
                    rintro e w' ⟨rfl, rfl⟩
                    go_wp2_with fail
                    refine (alike_c _ _ _ p p' sz sz _ _ _ HT3.out.i HT3.out.r).mono ?_
                    rintro e w9 ⟨rfl, hb9⟩
                    have HT9 := Lib.hid (HT3.out.keep hb9)
                    clear hb9
                    go_wp2_with fail
                    go_roundw
                    case rel => exact ⟨k + 1, _, _, _, by omega, by go_num, HT9.out⟩
                    case measure => simp [intOf]; omega
                  · have hat' : ¬ (t < 0) := by omega
                    go_wp2_with fail
                    refine (putI_out _ w.heap.size p sz L F HT3.out.i i a _ _ v (by rfl) ha (.inr hat)).mono ?_
                    rintro e w' ⟨rfl, rfl⟩
                    go_wp2_with fail
                    refine (getI_out _ w.heap.size p sz L F HT3.out.i i a _ _ (by rfl) ha (.inr hat)).mono ?_
                    rintro e w' ⟨rfl, rfl⟩
                    go_wp2_with fail
                    refine (alike_c _ _ _ p p' sz sz _ _ _ HT3.out.i HT3.out.r).mono ?_
                    rintro e w9 ⟨rfl, hb9⟩
                    have HT9 := Lib.hid (HT3.out.keep hb9)
                    clear hb9
                    go_wp2_with fail
                    go_roundw
                    case rel => exact ⟨k + 1, _, _, _, by omega, by go_num, HT9.out⟩
                    case measure => simp [intOf]; omega
              · have hout : r < 1 ∨ (L.length : Int) < r := by omega
                clear hin
                go_wp2_with fail
                refine (atR_no W w.heap.size p' sz L G HT2.out.r _ hout).mono ?_
                rintro e w3 ⟨rfl, hb⟩
                have hbA : Below W.heap.size W (w3.alloc (.cells #[.int .i64 0, .int .i64 0, .int .i64 0, .bool false, .slice none 0 0] 37)) := hb.alloc hb.size _
                have HT3 : Hid (Two w p p' sz L L F G (w3.alloc (.cells #[.int .i64 0, .int .i64 0, .int .i64 0, .bool false, .slice none 0 0] 37))) := HT2.out.keep hbA
                have K3 : Blk (w3.alloc (.cells #[.int .i64 0, .int .i64 0, .int .i64 0, .bool false, .slice none 0 0] 37)) X 31 #[.int .i64 x1, .int .i64 x2, .int .i64 x3, .int .i64 x4, .int .i64 x5, .bool sh, .slice AX nX cX] := HK.out.only (S := fun _ => False) (Only.of_below hbA) id
                have kx3 : (w3.alloc (.cells #[.int .i64 0, .int .i64 0, .int .i64 0, .bool false, .slice none 0 0] 37)).cell? ⟨X, 3, none⟩ = some (.int .i64 x4) := by rw [K3.cell]; rfl
                clear hb hbA
                go_wp2_with fail
                refine (putI_no _ w.heap.size p sz L F HT3.out.i _ _ v hout).mono ?_
                rintro e w' ⟨rfl, rfl⟩
                go_wp2_with fail
                refine (getI_no _ w.heap.size p sz L F HT3.out.i _ _ hout).mono ?_
                rintro e w' ⟨rfl, rfl⟩
                go_wp2_with fail
                refine (alike_c _ _ _ p p' sz sz _ _ _ HT3.out.i HT3.out.r).mono ?_
                rintro e w9 ⟨rfl, hb9⟩
                have HT9 := Lib.hid (HT3.out.keep hb9)
                clear hb9
                go_wp2_with fail
                go_roundw
                case rel => exact ⟨k + 1, _, _, _, by omega, by go_num, HT9.out⟩
                case measure => simp [intOf]; omega
          · by_cases h6 : y0 = 6
            · as_aux_lemma =>
                subst h6
                go_wp2_with fail
                refine (p2.out _).mono ?_
                rintro e w' ⟨rfl, rfl⟩
                by_cases hin : 1 ≤ r ∧ r ≤ (L.length : Int)
                · obtain ⟨i, hi⟩ : ∃ i : Nat, r = (i : Int) + 1 := ⟨(r - 1).toNat, by omega⟩
                  subst hi
                  obtain ⟨a, ha⟩ : ∃ a, L[i]? = some a := ⟨L[i]'(by omega), by first | (simp; done) | (simp; omega)⟩
                  clear hin
                  go_wp2_with fail
                  refine (atR_yes W w.heap.size p' sz L G HT2.out.r i a _ (by rfl) ha).mono ?_
                  rintro e w3 ⟨D, rfl, hd, hb⟩
                  obtain ⟨AD, cD, hDe, _⟩ := hd.slice
                  have hDe : D = .slice AD a.data.length cD := hDe
                  subst hDe
                  have hbA : Below W.heap.size W (w3.alloc (.cells #[.int .i64 a.owner, .int .i64 a.label, .int .i64 a.life, .bool a.share, .slice AD a.data.length cD] 37)) := hb.alloc hb.size _
                  have KD : Blk (w3.alloc (.cells #[.int .i64 a.owner, .int .i64 a.label, .int .i64 a.life, .bool a.share, .slice AD a.data.length cD] 37)) w3.heap.size 37 #[.int .i64 a.owner, .int .i64 a.label, .int .i64 a.life, .bool a.share, .slice AD a.data.length cD] := Blk.new _ _ _
                  have HT3 : Hid (Two w p p' sz L L F G (w3.alloc (.cells #[.int .i64 a.owner, .int .i64 a.label, .int .i64 a.life, .bool a.share, .slice AD a.data.length cD] 37))) := HT2.out.keep hbA
                  have K3 : Blk (w3.alloc (.cells #[.int .i64 a.owner, .int .i64 a.label, .int .i64 a.life, .bool a.share, .slice AD a.data.length cD] 37)) X 31 #[.int .i64 x1, .int .i64 x2, .int .i64 x3, .int .i64 x4, .int .i64 x5, .bool sh, .slice AX nX cX] := HK.out.only (S := fun _ => False) (Only.of_below hbA) id
                  have d4 : (w3.alloc (.cells #[.int .i64 a.owner, .int .i64 a.label, .int .i64 a.life, .bool a.share, .slice AD a.data.length cD] 37)).cell? ⟨w3.heap.size, 4, none⟩ = some (.slice AD a.data.length cD) := by rw [KD.cell]; rfl
                  have hw3 : W.heap.size ≤ w3.heap.size := hb.size
                  have kx3 : (w3.alloc (.cells #[.int .i64 a.owner, .int .i64 a.label, .int .i64 a.life, .bool a.share, .slice AD a.data.length cD] 37)).cell? ⟨X, 3, none⟩ = some (.int .i64 x4) := by rw [K3.cell]; rfl
                  clear hd hb hbA
                  by_cases hat : 0 ≤ t ∧ t < (a.data.length : Int)
                  · obtain ⟨j, hj⟩ := Int.eq_ofNat_of_zero_le hat.1
                    subst hj
                    have hj0 : (0 : Int) ≤ (j : Int) := by omega
                    have hjl : (j : Int) < (a.data.length : Int) := hat.2
                    have hjn : j < a.data.length := by omega
                    clear hat
                    go_wp2_with fail
                    refine (put_yes _ w.heap.size p sz L F i j a _ _ v HT3.out.i ha (by rfl) (by rfl) hjn hv).mono ?_
                    rintro e w4 ⟨rfl, hi4, hO4⟩
                    have HT4 := Lib.hid (HT3.out.put hi4 hO4)
                    have K4 : Blk w4 X 31 #[.int .i64 x1, .int .i64 x2, .int .i64 x3, .int .i64 x4, .int .i64 x5, .bool sh, .slice AX nX cX] := K3.only hO4 (fun hf => by have := hFX.out _ (.inl hf); omega)
                    have hb5 : Below w4.heap.size w4 (w4.alloc (.cells #[.int .u8 v] 5)) := (Below.refl _ _).alloc (Nat.le_refl _) _
                    have HT5 : Hid (Two w p p' sz _ _ _ _ (w4.alloc (.cells #[.int .u8 v] 5))) := HT4.out.keep hb5
                    have K5 : Blk (w4.alloc (.cells #[.int .u8 v] 5)) X 31 #[.int .i64 x1, .int .i64 x2, .int .i64 x3, .int .i64 x4, .int .i64 x5, .bool sh, .slice AX nX cX] := K4.alloc _
                    have kx3' : (w4).cell? ⟨X, 3, none⟩ = some (.int .i64 x4) := by rw [K4.cell]; rfl
                    clear hi4 hO4 hb5
                    go_wp2_with fail
                    refine (putR_c _ w.heap.size w4.heap.size p' sz L G HT5.out.r i j a _ _ _ [v] (by rfl) (by rfl) ha (dw_one v hv) (by simp; omega)).mono ?_
                    rintro e w6 ⟨rfl, hr6, hO6⟩
                    rw [puts_one'] at hr6
                    have HT6 := Lib.hid (HT5.out.second hr6 hO6)
                    have K6 : Blk w6 X 31 #[.int .i64 x1, .int .i64 x2, .int .i64 x3, .int .i64 x4, .int .i64 x5, .bool sh, .slice AX nX cX] := K5.only hO6 (fun hf => by have := hFX.out _ (.inr hf); omega)
                    have kx3'' : (w6).cell? ⟨X, 3, none⟩ = some (.int .i64 x4) := by rw [K6.cell]; rfl
                    clear hr6 hO6
                    have hset : (L.set i (a.with' (a.data.set j v)))[i]? = some (a.with' (a.data.set j v)) := List.getElem?_set_self (List.getElem?_eq_some_iff.mp ha).1
                    go_wp2_with fail
                    refine (getI_yes _ w.heap.size p sz _ _ HT6.out.i i j (a.with' (a.data.set j v)) _ _ (by rfl) hset (by rfl) (by simpa [Ar.with'] using hjn)).mono ?_
                    rintro e w' ⟨he, rfl⟩
                    rw [show (a.with' (a.data.set j v)).data.getD j 0 = v from set_get v hjn] at he
                    subst he
                    go_wp2_with fail
                    refine (alike_c _ _ _ p p' sz sz _ _ _ HT6.out.i HT6.out.r).mono ?_
                    rintro e w9 ⟨rfl, hb9⟩
                    have HT9 := Lib.hid (HT6.out.keep hb9)
                    clear hb9
                    go_wp2_with fail
                    go_roundw
                    case rel => exact ⟨k + 1, _, _, _, by omega, by go_num, HT9.out⟩
                    case measure => simp [intOf]; omega
                  · rcases (show t < 0 ∨ (a.data.length : Int) ≤ t by omega) with hat | hat
                    · go_wp2_with fail
                      refine (putI_out _ w.heap.size p sz L F HT3.out.i i a _ _ v (by rfl) ha (.inl hat)).mono ?_
                      rintro e w' ⟨rfl, rfl⟩
                      go_wp2_with fail
                      refine (getI_out _ w.heap.size p sz L F HT3.out.i i a _ _ (by rfl) ha (.inl hat)).mono ?_
                      rintro e w' ⟨rfl, rfl⟩
                      go_wp2_with fail
                      refine (alike_c _ _ _ p p' sz sz _ _ _ HT3.out.i HT3.out.r).mono ?_
                      rintro e w9 ⟨rfl, hb9⟩
                      have HT9 := Lib.hid (HT3.out.keep hb9)
                      clear hb9
                      go_wp2_with fail
                      go_roundw
                      case rel => exact ⟨k + 1, _, _, _, by omega, by go_num, HT9.out⟩
                      case measure => simp [intOf]; omega
                    · have hat' : ¬ (t < 0) := by omega
                      go_wp2_with fail
                      refine (putI_out _ w.heap.size p sz L F HT3.out.i i a _ _ v (by rfl) ha (.inr hat)).mono ?_
                      rintro e w' ⟨rfl, rfl⟩
                      go_wp2_with fail
                      refine (getI_out _ w.heap.size p sz L F HT3.out.i i a _ _ (by rfl) ha (.inr hat)).mono ?_
                      rintro e w' ⟨rfl, rfl⟩
                      go_wp2_with fail
                      refine (alike_c _ _ _ p p' sz sz _ _ _ HT3.out.i HT3.out.r).mono ?_
                      rintro e w9 ⟨rfl, hb9⟩
                      have HT9 := Lib.hid (HT3.out.keep hb9)
                      clear hb9
                      go_wp2_with fail
                      go_roundw
                      case rel => exact ⟨k + 1, _, _, _, by omega, by go_num, HT9.out⟩
                      case measure => simp [intOf]; omega
                · have hout : r < 1 ∨ (L.length : Int) < r := by omega
                  clear hin
                  go_wp2_with fail
                  refine (atR_no W w.heap.size p' sz L G HT2.out.r _ hout).mono ?_
                  rintro e w3 ⟨rfl, hb⟩
                  have hbA : Below W.heap.size W (w3.alloc (.cells #[.int .i64 0, .int .i64 0, .int .i64 0, .bool false, .slice none 0 0] 37)) := hb.alloc hb.size _
                  have HT3 : Hid (Two w p p' sz L L F G (w3.alloc (.cells #[.int .i64 0, .int .i64 0, .int .i64 0, .bool false, .slice none 0 0] 37))) := HT2.out.keep hbA
                  have K3 : Blk (w3.alloc (.cells #[.int .i64 0, .int .i64 0, .int .i64 0, .bool false, .slice none 0 0] 37)) X 31 #[.int .i64 x1, .int .i64 x2, .int .i64 x3, .int .i64 x4, .int .i64 x5, .bool sh, .slice AX nX cX] := HK.out.only (S := fun _ => False) (Only.of_below hbA) id
                  have kx3 : (w3.alloc (.cells #[.int .i64 0, .int .i64 0, .int .i64 0, .bool false, .slice none 0 0] 37)).cell? ⟨X, 3, none⟩ = some (.int .i64 x4) := by rw [K3.cell]; rfl
                  clear hb hbA
                  go_wp2_with fail
                  refine (putI_no _ w.heap.size p sz L F HT3.out.i _ _ v hout).mono ?_
                  rintro e w' ⟨rfl, rfl⟩
                  go_wp2_with fail
                  refine (getI_no _ w.heap.size p sz L F HT3.out.i _ _ hout).mono ?_
                  rintro e w' ⟨rfl, rfl⟩
                  go_wp2_with fail
                  refine (alike_c _ _ _ p p' sz sz _ _ _ HT3.out.i HT3.out.r).mono ?_
                  rintro e w9 ⟨rfl, hb9⟩
                  have HT9 := Lib.hid (HT3.out.keep hb9)
                  clear hb9
                  go_wp2_with fail
                  go_roundw
                  case rel => exact ⟨k + 1, _, _, _, by omega, by go_num, HT9.out⟩
                  case measure => simp [intOf]; omega
            · by_cases h7 : y0 = 7
              · as_aux_lemma =>
                  subst h7
                  go_wp2_with fail
                  refine (few_c AX nX cX 70 xs W HXB.out (by omega) hnc hc0.out (by omega) (by omega)).mono ?_
                  rintro e w3 ⟨v', rfl, hown, ⟨a', c', rfl⟩, hb⟩
                  have hbyte := HXB.out.byte
                  have hD := Dw.own hown (fun x hx => hbyte x (List.mem_of_mem_take hx))
                  have hyl : (xs.take (min nX (Int.toNat 70))).length = min nX (Int.toNat 70) := by have := HXB.out.len; simp; omega
                  have hkk : min nX (Int.toNat 70) ≤ 70 := by omega
                  have HT3 : Hid (Two w p p' sz L L F G w3) := HT2.out.keep hb
                  have hw3 : W.heap.size ≤ w3.heap.size := hb.size
                  clear hown hb hbyte
                  generalize xs.take (min nX (Int.toNat 70)) = ys at *
                  generalize min nX (Int.toNat 70) = kk at *
                  have HD := Lib.hid hD
                  clear hD
                  by_cases hin : (r = 1 ∨ r = 2) ∧ kk ≤ 64
                  · obtain ⟨i, hi, hi2⟩ : ∃ i : Nat, r = (i : Int) + 1 ∧ i < 2 := ⟨(r - 1).toNat, by omega, by omega⟩
                    subst hi
                    have h64 := hin.2
                    clear hin
                    have htwo := HT3.out.i.good.two
                    obtain ⟨a, ha⟩ : ∃ a, L[i]? = some a := ⟨L[i]'(by omega), by first | (simp; done) | (simp; omega)⟩
                    go_wp2_with fail
                    refine (setbufI_yes _ w.heap.size p sz L F HT3.out.i i a _ _ ys (by rfl) hi2 ha (Dw.rd HD.out) (by omega)).mono ?_
                    rintro e w4 ⟨rfl, hi4, hO4⟩
                    have HT4 := Lib.hid (HT3.out.first hi4 hO4)
                    have HD4 := Lib.hid (HD.out.keep hO4 (fun q hq hf => by have := (HD.out.lt hq).1; have := HT2.out.ge (.inl hf); omega))
                    clear hi4 hO4
                    go_wp2_with fail
                    refine (setbufR_yes _ w.heap.size _ p' sz L G HT4.out.r i a _ _ ys (by rfl) hi2 ha HD4.out (by omega)).mono ?_
                    rintro e w5 ⟨rfl, hr5, hO5⟩
                    have HT5 := Lib.hid (HT4.out.second hr5 hO5)
                    clear hr5 hO5
                    go_wp2_with fail
                    refine (alike_c _ _ _ p p' sz sz _ _ _ HT5.out.i HT5.out.r).mono ?_
                    rintro e w9 ⟨rfl, hb9⟩
                    have HT9 := Lib.hid (HT5.out.keep hb9)
                    clear hb9
                    go_wp2_with fail
                    go_roundw
                    case rel => exact ⟨k + 1, _, _, _, by omega, by go_num, HT9.out⟩
                    case measure => simp [intOf]; omega
                  · go_wp2_with fail
                    refine (setbufI_no _ _ _ _ _ _ (by omega) (by omega)).mono ?_
                    rintro e w' ⟨rfl, rfl⟩
                    go_wp2_with fail
                    refine (setbufR_no _ _ _ _ _ _ (by omega) (by omega)).mono ?_
                    rintro e w' ⟨rfl, rfl⟩
                    go_wp2_with fail
                    refine (alike_c _ _ _ p p' sz sz _ _ _ HT3.out.i HT3.out.r).mono ?_
                    rintro e w9 ⟨rfl, hb9⟩
                    have HT9 := Lib.hid (HT3.out.keep hb9)
                    clear hb9
                    go_wp2_with fail
                    go_roundw
                    case rel => exact ⟨k + 1, _, _, _, by omega, by go_num, HT9.out⟩
                    case measure => simp [intOf]; omega
              · by_cases h8 : y0 = 8
                · as_aux_lemma =>
                    subst h8
                    go_wp2_with fail
                    refine (p3.out _).mono ?_
                    rintro e w' ⟨rfl, rfl⟩
                    go_wp2_with fail
                    refine (p4.out _).mono ?_
                    rintro e w' ⟨rfl, rfl⟩
                    go_wp2_with fail
                    refine (clearI_c _ w.heap.size p sz L F y3 y4 HT2.out.i).mono ?_
                    rintro e w3 ⟨rfl, hi3, hO3⟩
                    have HT3 := Lib.hid (HT2.out.first hi3 hO3)
                    clear hi3 hO3
                    go_wp2_with fail
                    refine (clearR_c _ w.heap.size p' sz L G y3 y4 HT3.out.r).mono ?_
                    rintro e w4 ⟨rfl, hr4, hO4⟩
                    have HT4 := Lib.hid (HT3.out.second hr4 hO4)
                    clear hr4 hO4
                    generalize goneN y3 y4 L = gn
                    go_wp2_with fail
                    refine (alike_c _ _ _ p p' sz sz _ _ _ HT4.out.i HT4.out.r).mono ?_
                    rintro e w9 ⟨rfl, hb9⟩
                    have HT9 := Lib.hid (HT4.out.keep hb9)
                    clear hb9
                    go_wp2_with fail
                    go_roundw
                    case rel => exact ⟨k + 1, _, _, _, by omega, by go_num, HT9.out⟩
                    case measure => simp [intOf]; omega
                · by_cases h9 : y0 = 9
                  · as_aux_lemma =>
                      subst h9
                      go_wp2_with fail
                      refine (copyI_c _ w.heap.size p sz L F HT2.out.i).mono ?_
                      rintro e w3 ⟨pc, rfl, hc, hb3⟩
                      have HT3 := Lib.hid (HT2.out.keep hb3)
                      have HC3 := Lib.hid hc
                      have HB3 := Lib.hid hb3
                      clear hc hb3
                      go_wp2_with fail
                      refine (alike_c _ _ _ pc p' sz sz L _ G HC3.out HT3.out.r).mono ?_
                      rintro e w4 ⟨rfl, hb4⟩
                      have HB4 := Lib.hid (HB3.out.trans (hb4.mono HB3.out.size))
                      have HC4 := Lib.hid (HC3.out.below hb4)
                      clear hb4 HT3 HC3 HB3
                      go_wp2_with fail
                      refine (allocI_any _ _ pc sz L _ 0 3 0 1 false HC4.out (by omega) (by omega)).mono ?_
                      rintro e w5 ⟨rfl, hc5, hO5⟩
                      have HC5 : Hid (AtI w5 W.heap.size pc sz _ _) := hc5
                      have HB5 := Lib.hid (HB4.out.trans (hO5.below HB4.out.size (fun q hq => hq.1)))
                      clear hc5 hO5
                      generalize allocN sz L 3 0 1 = aN
                      generalize allocB sz L 3 0 1 = aB
                      go_wp2_with fail
                      refine (putI_any _ _ pc sz _ _ HC5.out 77 (by omega)).mono ?_
                      rintro e w6 ⟨⟨b6, rfl⟩, hO6⟩
                      have HB6 := Lib.hid (HB5.out.trans (hO6.below HB5.out.size (fun q hq => (HC5.out.lt hq).1)))
                      have HT6 := Lib.hid (HT2.out.keep HB6.out)
                      clear hO6 HC4 HC5 HB4 HB5
                      by_cases hin : 1 ≤ r ∧ r ≤ (L.length : Int)
                      · obtain ⟨i, hi⟩ : ∃ i : Nat, r = (i : Int) + 1 := ⟨(r - 1).toNat, by omega⟩
                        subst hi
                        obtain ⟨a, ha⟩ : ∃ a, L[i]? = some a := ⟨L[i]'(by omega), by first | (simp; done) | (simp; omega)⟩
                        have h64 := HT6.out.i.good.data a (List.mem_of_getElem? ha)
                        clear hin
                        go_wp2_with fail
                        refine (arrayI_yes _ w.heap.size p sz L F HT6.out.i i a _ (by rfl) ha).mono ?_
                        rintro e w7 ⟨D, rfl, hd, hb⟩
                        obtain ⟨AD, cD, hDe, _⟩ := hd.slice
                        have hDe : D = .slice AD a.data.length cD := hDe
                        subst hDe
                        have HK7 : Hid (Blk (w7.alloc (.cells #[.int .i64 a.owner, .int .i64 a.label, .int .i64 a.life, .bool a.share, .slice AD a.data.length cD] 37)) w7.heap.size 37 #[.int .i64 a.owner, .int .i64 a.label, .int .i64 a.life, .bool a.share, .slice AD a.data.length cD]) := Blk.new _ _ _
                        have HD7 : Hid (Dw 5 (w7.alloc (.cells #[.int .i64 a.owner, .int .i64 a.label, .int .i64 a.life, .bool a.share, .slice AD a.data.length cD] 37)) w6.heap.size (.slice AD a.data.length cD) a.data) := hd.keep (S := fun _ => False) ((Only.refl _ _).alloc _) (fun _ _ h => h)
                        have HB7 : Hid (Below w6.heap.size w6 (w7.alloc (.cells #[.int .i64 a.owner, .int .i64 a.label, .int .i64 a.life, .bool a.share, .slice AD a.data.length cD] 37))) := hb.alloc hb.size _
                        clear hd hb
                        go_wp2_with fail
                        go_loopw [23] (fun j wi => ∃ (m : Nat) (ys : List Int), m ≤ a.data.length ∧ j = .int .i64 m ∧ ys.length = a.data.length ∧ Dw 5 wi w6.heap.size (.slice AD a.data.length cD) ys ∧ Blk wi w7.heap.size 37 #[.int .i64 a.owner, .int .i64 a.label, .int .i64 a.life, .bool a.share, .slice AD a.data.length cD] ∧ Below w6.heap.size w6 wi) (fun j _ => a.data.length - (intOf j).toNat)
                        case atStart => exact ⟨0, a.data, Nat.zero_le _, rfl, rfl, HD7.out, HK7.out, HB7.out⟩
                        case round =>
                          obtain ⟨m, ys, hm, rfl, hyl, hd, hkd, hbi⟩ := hrel
                          have a4 : wr.cell? ⟨w7.heap.size, 4, none⟩ = some (.slice AD a.data.length cD) := by rw [hkd.cell]; rfl
                          have HDI := Lib.hid hd
                          have HKI := Lib.hid hkd
                          have HBI := Lib.hid hbi
                          clear hd hkd hbi
                          by_cases hml : m < a.data.length
                          · obtain ⟨g, hAD, hcg, hfg, hdB, hgl, hge⟩ := Dw.get HDI.out rfl hml
                            subst hAD
                            have hz : 0 ≤ IntKind.u8.wrap (ys.getD m 0 + 1) ∧ IntKind.u8.wrap (ys.getD m 0 + 1) ≤ 255 := wrap_u8' _
                            have hgne : g ≠ w7.heap.size := by
                              obtain ⟨A', c', e0, _, _, _, _, h5⟩ := HDI.out
                              obtain ⟨g', cur, e1, _, hb, _⟩ := h5 (by intro e; rw [e] at hyl; simp at hyl; omega)
                              rw [e1] at e0
                              injection e0 with e0 _ _; injection e0 with e0; injection e0 with e0 _ _; subst e0; exact hb.ne HKI.out (by decide)
                            have HP := Lib.hid (HDI.out.put (i := m) hdB hz)
                            have HKP := Lib.hid (HKI.out.far (p := ⟨g, m, none⟩) (Ne.symm hgne) (.int .u8 (IntKind.u8.wrap (ys.getD m 0 + 1))))
                            have HBP := Lib.hid (HBI.out.trans ((only_set wr g m (.int .u8 (IntKind.u8.wrap (ys.getD m 0 + 1)))).below HBI.out.size (fun q hq => by subst hq; exact hge)))
                            generalize ys.getD m 0 = va at *
                            generalize hvb : IntKind.u8.wrap (va + 1) = vb at *
                            go_wp2_with fail
                            go_roundw
                            case rel => exact ⟨m + 1, ys.set m vb, by omega, by go_num, by rw [List.length_set]; exact hyl, HP.out, HKP.out, HBP.out⟩
                            case measure => simp [intOf]; omega
                          · have hme : m = a.data.length := by omega
                            subst hme
                            have HT8 := Lib.hid (HT6.out.keep HBI.out)
                            go_wp2_with fail
                            refine (alike_c _ _ _ p p' sz sz _ _ _ HT8.out.i HT8.out.r).mono ?_
                            rintro e w9 ⟨rfl, hb9⟩
                            have HT9 := Lib.hid (HT8.out.keep hb9)
                            clear hb9
                            go_wp2_with fail
                            go_roundw
                            case rel => exact ⟨k + 1, _, _, _, by omega, by go_num, HT9.out⟩
                            case measure => simp [intOf]; omega
                      · have hout : r < 1 ∨ (L.length : Int) < r := by omega
                        clear hin
                        go_wp2_with fail
                        refine (arrayI_no _ w.heap.size p sz L F HT6.out.i _ hout).mono ?_
                        rintro e w7 ⟨rfl, hb⟩
                        have hbA : Below w6.heap.size w6 (w7.alloc (.cells #[.int .i64 0, .int .i64 0, .int .i64 0, .bool false, .slice none 0 0] 37)) := hb.alloc hb.size _
                        have KD : Blk (w7.alloc (.cells #[.int .i64 0, .int .i64 0, .int .i64 0, .bool false, .slice none 0 0] 37)) w7.heap.size 37 #[.int .i64 0, .int .i64 0, .int .i64 0, .bool false, .slice none 0 0] := Blk.new _ _ _
                        have d4 : (w7.alloc (.cells #[.int .i64 0, .int .i64 0, .int .i64 0, .bool false, .slice none 0 0] 37)).cell? ⟨w7.heap.size, 4, none⟩ = some (.slice none 0 0) := by rw [KD.cell]; rfl
                        have HBA := Lib.hid hbA
                        clear hb hbA KD
                        go_wp2_with fail
                        go_loopw [23] (fun j wi => j = .int .i64 0 ∧ Below w6.heap.size w6 wi ∧ wi.cell? ⟨w7.heap.size, 4, none⟩ = some (.slice none 0 0)) (fun j _ => 0)
                        case atStart => exact ⟨rfl, HBA.out, d4⟩
                        case round =>
                          obtain ⟨rfl, hbi, d5⟩ := hrel
                          have HT8 := Lib.hid (HT6.out.keep hbi)
                          clear hbi
                          go_wp2_with fail
                          refine (alike_c _ _ _ p p' sz sz _ _ _ HT8.out.i HT8.out.r).mono ?_
                          rintro e w9 ⟨rfl, hb9⟩
                          have HT9 := Lib.hid (HT8.out.keep hb9)
                          clear hb9
                          go_wp2_with fail
                          go_roundw
                          case rel => exact ⟨k + 1, _, _, _, by omega, by go_num, HT9.out⟩
                          case measure => simp [intOf]; omega
                  · as_aux_lemma =>
                      go_wp2_with fail
                      refine (p5.out _).mono ?_
                      rintro e w' ⟨rfl, rfl⟩
                      go_wp2_with fail
                      refine (p3.out _).mono ?_
                      rintro e w' ⟨rfl, rfl⟩
                      go_wp2_with fail
                      refine (p7.out _).mono ?_
                      rintro e w' ⟨rfl, rfl⟩
                      go_wp2_with fail
                      refine (p6.out _).mono ?_
                      rintro e w' ⟨rfl, rfl⟩
                      go_wp2_with fail
                      refine (allocI_any _ w.heap.size p sz L F y6 (2 + y3) y7 (y5 - 2) sh HT2.out.i (by omega) (by omega)).mono ?_
                      rintro e w3 ⟨rfl, hi3, hO3⟩
                      have HT3 := Lib.hid (HT2.out.first hi3 hO3)
                      have K3 : Blk w3 X 31 #[.int .i64 x1, .int .i64 x2, .int .i64 x3, .int .i64 x4, .int .i64 x5, .bool sh, .slice AX nX cX] := HK.out.only hO3 (fun hf => by have := hFX.out _ (.inl hf); omega)
                      have kx5' : w3.cell? ⟨X, 5, none⟩ = some (.bool sh) := by rw [K3.cell]; rfl
                      clear hi3 hO3 K3
                      go_wp2_with fail
                      refine (allocR_any _ w.heap.size p' sz L G y6 (2 + y3) y7 (y5 - 2) sh HT3.out.r (by omega) (by omega)).mono ?_
                      rintro e w4 ⟨rfl, hr4, hO4⟩
                      have HT4 := Lib.hid (HT3.out.second hr4 hO4)
                      clear hr4 hO4
                      generalize allocN sz L (2 + y3) y7 (y5 - 2) = aN
                      generalize allocB sz L (2 + y3) y7 (y5 - 2) = aB
                      go_wp2_with fail
                      refine (alike_c _ _ _ p p' sz sz _ _ _ HT4.out.i HT4.out.r).mono ?_
                      rintro e w9 ⟨rfl, hb9⟩
                      have HT9 := Lib.hid (HT4.out.keep hb9)
                      clear hb9
                      go_wp2_with fail
                      go_roundw
                      case rel => exact ⟨k + 1, _, _, _, by omega, by go_num, HT9.out⟩
                      case measure => simp [intOf]; omega
      · go_wp2_with fail
        go_ret
        exact ⟨rfl, HT.out.below⟩
    · have hkn : k = n := by omega
      subst hkn
      go_wp2_with fail
      go_ret
      exact ⟨rfl, HT.out.below⟩
theorem heapPlays_top (v0 v1 : Value) (w : World) (u0 : Vw.Arg Try.prog w 3 v0) (u1 : Vw.Arg Try.prog w 22 v1) :
    Calls Try.prog 5 #[v0, v1] w fun e w' => e = .returned (.bool true) ∧ Below w.heap.size w w' := by
  obtain ⟨x1, rfl, _⟩ := u0.int Try.underlying3
  obtain ⟨A, n, c, rfl, _, _, _, hr⟩ := u1.rows Try.underlying22 cells_step8 (by omega)
  exact heapPlays_walk A n c x1 w hr
end Go.Proofs.Ytjmpnkhgligdlaa
