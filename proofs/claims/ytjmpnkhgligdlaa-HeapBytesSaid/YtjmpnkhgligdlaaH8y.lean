/- The walk of HeapBytes. -/
import Derived.Test.YtjmpnkhgligdlaaH8x
namespace Go.Proofs.Ytjmpnkhgligdlaa
open Go.RowKit On Hv Go.Sort
theorem info_bytes : (Try.prog.info? 29).map (fun i => (i.zero, i.size, i.bytes)) = some (some (.slice none 0 0), 1, 24) := by kernel_rfl
theorem wrap_u8 (x : Int) : 0 ≤ IntKind.u8.wrap x ∧ IntKind.u8.wrap x ≤ 255 := by
  have h : IntKind.u8.wrap x = x % 256 := by simp [IntKind.wrap, IntKind.bits, IntKind.signed]
  omega
theorem hb_start {w w2 : World} {p : Nat} {F : Nat → Prop} (h : AtI w2 w.heap.size p 4096 [buf0, buf1] F) (hb : Below w.heap.size w w2) : HbS w w2 p (.slice none 0 0) [] F :=
  ⟨h, ⟨⟨rfl, .inl ⟨rfl, rfl⟩⟩, by intro i x h; simp at h⟩, by intro i j x y k h; simp at h, fun k hk hf => by
    rcases hf with hf | ⟨i, x, hx, _⟩
    · simp [Value.ownBlock] at hf
    · simp at hx, by simp, by simp, hb⟩
set_option maxHeartbeats 8000000 in
set_option maxRecDepth 100000 in
theorem heapBytes_walk (A : Option Addr) (n c : Nat) (w : World) (hr : Vw.RowsOf w A n 7 (Vw.Viewed Try.prog w 31)) :
    Calls Try.prog 3 #[.slice A n c] w fun e w' => e = .returned (.bool true) ∧ Below w.heap.size w w' := by
  obtain ⟨j0, hj0, hy0, hy1, hy2⟩ := info_parts info_bytes
  have n1 := eql_heap
  have HR := Lib.hid hr; clear hr
  go_enter Try.func3, Try.ntmps3
  go_wp2_with fail
  refine (newI_c w 4096 (by omega) (by omega)).mono ?_
  rintro e w1 ⟨p, F, rfl, hi, hb1⟩
  have HI1 : Hid (AtI w1 w.heap.size p 4096 [buf0, buf1] F) := hi
  have HB1 := Lib.hid hb1
  clear hi hb1
  go_wp2_with fail
  refine (known8_c w1).mono ?_
  rintro e w2 ⟨rfl, hb⟩
  have HS0 := Lib.hid (hb_start (HI1.out.below hb) (HB1.out.trans (hb.mono HB1.out.size)))
  clear hb HB1 HI1
  go_upto_block 0 with (fail)
  go_cut [5, 6] (fun V _ wx => ∃ (R : List (List Int × Value)) (F : Nat → Prop), HbS w wx p V R F)
  case first =>
    go_wp2_with fail
    go_loopw [5, 6] (fun V i wr => ∃ (k : Nat) (R : List (List Int × Value)) (F : Nat → Prop), k ≤ n ∧ k ≤ 80 ∧ i = .int .i64 k ∧ HbS w wr p V R F) (fun _ i _ => n - (intOf i).toNat)
    case atStart => exact ⟨0, [], _, Nat.zero_le _, by omega, rfl, HS0.out⟩
    case round =>
      obtain ⟨k, R, F, hk, hk80, rfl, hs⟩ := hrel
      have HS := Lib.hid hs
      clear hs HS0
      by_cases hlt : k < n
      · by_cases h80 : (k : Int) < 80
        · obtain ⟨b, o, rfl, x1, x2, x3, x4, x5, sh, AX, nX, cX, _, c0, c1, c2, c3, c4, c5, c6⟩ := step8_cells HR.out HS.out.keep hlt
          obtain ⟨AV, cV, hV0⟩ := HS.out.had.form
          subst hV0
          have K0 : Blk (wr.alloc (.cells #[.int .i64 x1, .int .i64 x2, .int .i64 x3, .int .i64 x4, .int .i64 x5, .bool sh, .slice AX nX cX] 31)) wr.heap.size 31 #[.int .i64 x1, .int .i64 x2, .int .i64 x3, .int .i64 x4, .int .i64 x5, .bool sh, .slice AX nX cX] := Blk.new _ _ _
          have HS1 : Hid (HbS w (wr.alloc (.cells #[.int .i64 x1, .int .i64 x2, .int .i64 x3, .int .i64 x4, .int .i64 x5, .bool sh, .slice AX nX cX] 31)) p (.slice AV R.length cV) R F) := HS.out.below ((Below.refl _ _).alloc (Nat.le_refl _) _)
          have HS2 : Hid (HbS w (wr.alloc (.cells #[.int .i64 x1, .int .i64 x2, .int .i64 x3, .int .i64 x4, .int .i64 x5, .bool sh, .slice AX nX cX] 31)).drew p (.slice AV R.length cV) R F) := HS.out.below (belowD ((Below.refl _ _).alloc (Nat.le_refl _) _))
          have hfew := HS.out.few
          have hlen0 : 0 ≤ (R.length : Int) := by omega
          obtain ⟨y1, hy1⟩ : ∃ y, x1 % 4 = y := ⟨_, rfl⟩
          have ly1 : 0 ≤ y1 := by omega
          have ry1 : y1 < 4 := by omega
          have p1 : Hid (∀ w, Calls Try.prog 13 #[.int .i64 x1, .int .i64 4] w fun e w' => e = .returned (.int .i64 y1) ∧ w = w') := fun w => (pickN x1 4 (by omega) (by omega) w).mono (fun _ _ ⟨h1, h2⟩ => ⟨by rw [h1, hy1], h2⟩)
          clear hy1
          obtain ⟨y5, hy5⟩ : ∃ y, x5 % 30 = y := ⟨_, rfl⟩
          have ly5 : 0 ≤ y5 := by omega
          have ry5 : y5 < 30 := by omega
          have p5 : Hid (∀ w, Calls Try.prog 13 #[.int .i64 x5, .int .i64 30] w fun e w' => e = .returned (.int .i64 y5) ∧ w = w') := fun w => (pickN x5 30 (by omega) (by omega) w).mono (fun _ _ ⟨h1, h2⟩ => ⟨by rw [h1, hy5], h2⟩)
          clear hy5
          obtain ⟨y3, hy3⟩ : ∃ y, x3 % 30 = y := ⟨_, rfl⟩
          have ly3 : 0 ≤ y3 := by omega
          have ry3 : y3 < 30 := by omega
          have p3 : Hid (∀ w, Calls Try.prog 13 #[.int .i64 x3, .int .i64 30] w fun e w' => e = .returned (.int .i64 y3) ∧ w = w') := fun w => (pickN x3 30 (by omega) (by omega) w).mono (fun _ _ ⟨h1, h2⟩ => ⟨by rw [h1, hy3], h2⟩)
          clear hy3
          obtain ⟨v, hvq⟩ : ∃ v, IntKind.u8.wrap x4 = v := ⟨_, rfl⟩
          have hv : 0 ≤ v ∧ v ≤ 255 := by rw [← hvq]; exact wrap_u8 x4
          by_cases h0 : y1 = 0
          · by_cases h40 : (R.length : Int) < 40
            · go_wp2_with fail
              refine (p1.out _).mono ?_
              rintro e w' ⟨rfl, rfl⟩
              obtain ⟨N, hN⟩ := Int.eq_ofNat_of_zero_le ly5
              subst hN
              have hN29 : N ≤ 29 := by omega
              have hfit := Lib.hid (arrs_fits R HS.out.short (by omega) N hN29)
              have hmk := make_bytes N (by omega)
              go_wp2_with fail
              refine (p5.out _).mono ?_
              rintro e w' ⟨rfl, rfl⟩
              go_wp2_with fail
              refine (allocI_yes _ w.heap.size p 4096 (arrs R) F 0 3 0 N false HS1.out.at_ hfit.out).mono ?_
              rintro e w3 ⟨rfl, ha, hO⟩
              rw [List.length_append, arrs_len, List.length_singleton]
              have HA := Lib.hid ha
              have HO := Lib.hid hO
              have HR0 : Hid (w3.ownsRow w.heap.size 29 1 (.slice AV R.length cV) R.length (R.map Prod.snd)) := (HS1.out.had.keep hO (fun k hk hf => HS1.out.dis k hf hk)).row
              have hs3 : w.heap.size ≤ w3.heap.size := by have := HS1.out.keep.size; have := hO.size; omega
              clear ha hO hfit
              have HOWN : Hid (((w3.alloc (.cells (madeCells #[.int .u8 0] N) 5)).alloc (.cells #[.slice (some ⟨w3.heap.size, 0, none⟩) N N] 29)).ownsRow w.heap.size 29 1 (.slice AV R.length cV) R.length (R.map Prod.snd)) := (HR0.out.alloc _).alloc _
              have HSR : Hid (Src ((w3.alloc (.cells (madeCells #[.int .u8 0] N) 5)).alloc (.cells #[.slice (some ⟨w3.heap.size, 0, none⟩) N N] 29)) (some ⟨w3.heap.size + 1, 0, none⟩) 1 1 [.slice (some ⟨w3.heap.size, 0, none⟩) N N]) := by
                have := Src.block (w3.alloc (.cells (madeCells #[.int .u8 0] N) 5)) 29 1 [.slice (some ⟨w3.heap.size, 0, none⟩) N N] rfl (by simp [Value.oneCell']) (0, 0)
                rw [World.size_alloc] at this
                exact ⟨this.len, this.none_, this.cell, this.one⟩
              have e3 : IntKind.i64.wrap ((R.length : Int) + 3) = (R.length : Int) + 3 := IntWalk.i64_in _ (by omega)
              have e4 : ((R.length + 2 + 1 : Nat) : Int) = (R.length : Int) + 3 := by omega
              rw [e4]
              go_wp2_with (at_builtin; refine wpList_append_at _ rfl (.tmp 72) (.tmp 75) _ rfl w.heap.size 29 j0 _ 1 24 Try.underlying28 hj0 hy0 hy1 hy2 rfl (by omega) _ R.length (R.map Prod.snd) rfl HOWN.out (some ⟨w3.heap.size + 1, 0, none⟩) 1 1 _ rfl HSR.out nofun (by unfold maxLen; omega) (by omega) (by simp; omega) ?_)
              intro A2 c2 w4 hown hg hat
              have HF := Lib.hid (HS1.out.pushed HA.out HO.out (((Below.refl _ _).alloc (Nat.le_refl _) _).alloc (by simp) _) (Nat.le_refl _) ((Blk.new _ _ _).alloc _) hg hown (by rw [World.size_alloc, World.size_alloc]; exact hat) hN29 (by omega))
              clear hown hg hat HOWN HSR HR0 HA HO
              go_wp2_with fail
              go_roundw
              case rel => exact ⟨k + 1, _, _, by omega, by omega, by go_num, HF.out⟩
              case measure => simp [intOf]; omega

            · go_wp2_with fail
              refine (p1.out _).mono ?_
              rintro e w' ⟨rfl, rfl⟩
              by_cases hz : R.length = 0
              · exfalso; omega
              · obtain ⟨y2, hy2'⟩ : ∃ y, x2 % (R.length : Int) = y := ⟨_, rfl⟩
                have ly2 : 0 ≤ y2 := by rw [← hy2']; exact Int.emod_nonneg _ (by omega)
                have ry2 : y2 < (R.length : Int) := by rw [← hy2']; exact Int.emod_lt_of_pos _ (by omega)
                have p2 : Hid (∀ w, Calls Try.prog 13 #[.int .i64 x2, .int .i64 (R.length : Int)] w fun e w' => e = .returned (.int .i64 y2) ∧ w = w') := fun w => (pickN x2 (R.length : Int) (by omega) (by omega) w).mono (fun _ _ ⟨h1, h2⟩ => ⟨by rw [h1, hy2'], h2⟩)
                clear hy2'
                go_wp2_with fail
                refine (p2.out _).mono ?_
                rintro e w' ⟨rfl, rfl⟩
                go_wp2_with fail
                refine (p3.out _).mono ?_
                rintro e w' ⟨rfl, rfl⟩
                obtain ⟨K, hK⟩ := Int.eq_ofNat_of_zero_le ly2
                subst hK
                obtain ⟨J, hJ⟩ := Int.eq_ofNat_of_zero_le ly3
                subst hJ
                obtain ⟨x, hx⟩ : ∃ x, R[K]? = some x := ⟨R[K]'(by omega), by first | (simp; done) | (simp; omega)⟩
                have hda := HS1.out.had.dat K x hx
                have h29 := HS1.out.short x (List.mem_of_getElem? hx)
                obtain ⟨q, cR, hV, hqc, hql⟩ := HS1.out.had.cell hx
                obtain ⟨AD, cD, hD, _⟩ := hda.slice
                rw [hD] at hqc
                rw [World.size_alloc] at hql
                have hAV : AV = some ⟨q, 0, none⟩ := by injection hV
                subst hAV
                have ge3 : IntKind.i64.wrap ((K : Int) + 3) = (K : Int) + 3 := IntWalk.i64_in _ (by omega)
                have hax := arrs_get hx
                have kq : (wr.alloc (.cells #[.int .i64 x1, .int .i64 x2, .int .i64 x3, .int .i64 x4, .int .i64 x5, .bool sh, .slice AX nX cX] 31)).drew.cell? ⟨q, K, none⟩ = some (.slice AD x.1.length cD) := hqc
                have k3 : (wr.alloc (.cells #[.int .i64 x1, .int .i64 x2, .int .i64 x3, .int .i64 x4, .int .i64 x5, .bool sh, .slice AX nX cX] 31)).drew.cell? ⟨wr.heap.size, 3, none⟩ = some (.int .i64 x4) := by rw [K0.drew.cell]; rfl
                have hqF : Hid (¬ F q) := fun hf => HS1.out.dis q hf (.inl rfl)
                have hxF : Hid (¬ F wr.heap.size) := fun hf => by have := (HS.out.at_.lt hf).2; omega
                by_cases hat : J < x.1.length
                · have hat' : ((J : Int) < (x.1.length : Int)) := by omega
                  have kf := And.intro kq k3
                  clear kq k3
                  go_wp2_with fail
                  go_region_held3 (fun w' => w'.cell? ⟨q, K, none⟩ = some (.slice AD x.1.length cD) ∧ w'.cell? ⟨wr.heap.size, 3, none⟩ = some (.int .i64 x4)) (first | exact kf | exact kg)
                    (first | (go_at_call 15; refine (put_yes _ w.heap.size p 4096 (arrs R) F (K + 2) J (arr x) _ _ v HS2.out.at_ hax (by omega) (by rfl) hat hv).mono ?_; rintro e w3 ⟨rfl, ha, hO⟩; have kg : w3.cell? ⟨q, K, none⟩ = some (.slice AD x.1.length cD) ∧ w3.cell? ⟨wr.heap.size, 3, none⟩ = some (.int .i64 x4) := ⟨(hO.cell (by simp; omega) hqF.out).trans kf.1, (hO.cell (by simp) hxF.out).trans kf.2⟩))
                  obtain ⟨g, hAD, hcg, hfg, hdB, hgl, _⟩ := Dw.get hda hD hat
                  subst hAD
                  rw [World.size_alloc] at hgl
                  have HP := Lib.hid (HS2.out.put hx (w1 := w3.drew) (ha.below (belowD (Below.refl _ _))) hO.drew hdB hv)
                  have hgx : g ≠ wr.heap.size := by have := ((HS.out.had.dat K x hx).lt hdB).2; omega
                  have hgq : g ≠ q := fun e => HS1.out.had.dat_ne_row (by decide) hx hdB (by rw [e]; rfl)
                  have hgF : ¬ F g := fun hf => HS1.out.dis g hf (.inr ⟨K, x, hx, hdB⟩)
                  have kh : w3.drew.cell? ⟨q, K, none⟩ = some (.slice (some ⟨g, 0, none⟩) x.1.length cD) ∧ w3.drew.cell? ⟨wr.heap.size, 3, none⟩ = some (.int .i64 x4) ∧ w3.drew.cell? ⟨g, J, none⟩ = some (.int .u8 (x.1.getD J 0)) ∧ w3.drew.frozen? ⟨g, J, none⟩ = false :=
                    ⟨kg.1, kg.2, (hO.cell (by simp; omega) hgF).trans hcg, (hO.frozen (by simp; omega) hgF).trans hfg⟩
                  obtain ⟨kh1, kh2, kh3, kh4⟩ := kh
                  have hO2 := only_set w3.drew g J (.int .u8 v)
                  have hsz3 := hO.size
                  rw [World.size_drew, World.size_alloc] at hsz3
                  have kn : (w3.drew.setCell ⟨g, J, none⟩ (.int .u8 v)).cell? ⟨q, K, none⟩ = some (.slice (some ⟨g, 0, none⟩) x.1.length cD) ∧ (w3.drew.setCell ⟨g, J, none⟩ (.int .u8 v)).cell? ⟨wr.heap.size, 3, none⟩ = some (.int .i64 x4) :=
                    ⟨(hO2.cell (by rw [World.size_drew]; show q < w3.heap.size; omega) (Ne.symm hgq)).trans kh1, (hO2.cell (by rw [World.size_drew]; show wr.heap.size < w3.heap.size; omega) (Ne.symm hgx)).trans kh2⟩
                  have ko := And.intro kh1 kh2
                  clear ha hO hO2 kh1 kh2
                  go_wp2_with fail
                  go_region_held3 (fun w' => w'.cell? ⟨q, K, none⟩ = some (.slice (some ⟨g, 0, none⟩) x.1.length cD) ∧ w'.cell? ⟨wr.heap.size, 3, none⟩ = some (.int .i64 x4)) (first | exact ko | exact kn) (fail)
                  go_wp2_with fail
                  go_roundw
                  case rel => exact ⟨k + 1, _, _, by omega, by omega, by go_num, HP.out⟩
                  case measure => simp [intOf]; omega
                · have hat' : ¬ ((J : Int) < (x.1.length : Int)) := by omega
                  have kf := And.intro kq k3
                  clear kq k3
                  go_wp2_with fail
                  go_region_held3 (fun w' => w'.cell? ⟨q, K, none⟩ = some (.slice AD x.1.length cD) ∧ w'.cell? ⟨wr.heap.size, 3, none⟩ = some (.int .i64 x4)) (first | exact kf | exact kg)
                    (first | (go_at_call 15; refine (putI_out _ w.heap.size p 4096 (arrs R) F HS2.out.at_ (K + 2) (arr x) _ _ v (by omega) hax (.inr (by simp [arr]; omega))).mono ?_; rintro e w3 ⟨rfl, rfl⟩; have kg := kf))
                  go_wp2_with fail
                  go_roundw
                  case rel => exact ⟨k + 1, _, _, by omega, by omega, by go_num, HS2.out⟩
                  case measure => simp [intOf]; omega

          · go_wp2_with fail
            refine (p1.out _).mono ?_
            rintro e w' ⟨rfl, rfl⟩
            by_cases hz : R.length = 0
            · have hRn := List.eq_nil_of_length_eq_zero hz
              subst hRn
              go_wp2_with fail
              go_roundw
              case rel => exact ⟨k + 1, _, _, by omega, by omega, by go_num, HS1.out⟩
              case measure => simp [intOf]; omega
            · obtain ⟨y2, hy2'⟩ : ∃ y, x2 % (R.length : Int) = y := ⟨_, rfl⟩
              have ly2 : 0 ≤ y2 := by rw [← hy2']; exact Int.emod_nonneg _ (by omega)
              have ry2 : y2 < (R.length : Int) := by rw [← hy2']; exact Int.emod_lt_of_pos _ (by omega)
              have p2 : Hid (∀ w, Calls Try.prog 13 #[.int .i64 x2, .int .i64 (R.length : Int)] w fun e w' => e = .returned (.int .i64 y2) ∧ w = w') := fun w => (pickN x2 (R.length : Int) (by omega) (by omega) w).mono (fun _ _ ⟨h1, h2⟩ => ⟨by rw [h1, hy2'], h2⟩)
              clear hy2'
              go_wp2_with fail
              refine (p2.out _).mono ?_
              rintro e w' ⟨rfl, rfl⟩
              go_wp2_with fail
              refine (p3.out _).mono ?_
              rintro e w' ⟨rfl, rfl⟩
              obtain ⟨K, hK⟩ := Int.eq_ofNat_of_zero_le ly2
              subst hK
              obtain ⟨J, hJ⟩ := Int.eq_ofNat_of_zero_le ly3
              subst hJ
              obtain ⟨x, hx⟩ : ∃ x, R[K]? = some x := ⟨R[K]'(by omega), by first | (simp; done) | (simp; omega)⟩
              have hda := HS1.out.had.dat K x hx
              have h29 := HS1.out.short x (List.mem_of_getElem? hx)
              obtain ⟨q, cR, hV, hqc, hql⟩ := HS1.out.had.cell hx
              obtain ⟨AD, cD, hD, _⟩ := hda.slice
              rw [hD] at hqc
              rw [World.size_alloc] at hql
              have hAV : AV = some ⟨q, 0, none⟩ := by injection hV
              subst hAV
              have ge3 : IntKind.i64.wrap ((K : Int) + 3) = (K : Int) + 3 := IntWalk.i64_in _ (by omega)
              have hax := arrs_get hx
              have kq : (wr.alloc (.cells #[.int .i64 x1, .int .i64 x2, .int .i64 x3, .int .i64 x4, .int .i64 x5, .bool sh, .slice AX nX cX] 31)).drew.cell? ⟨q, K, none⟩ = some (.slice AD x.1.length cD) := hqc
              have k3 : (wr.alloc (.cells #[.int .i64 x1, .int .i64 x2, .int .i64 x3, .int .i64 x4, .int .i64 x5, .bool sh, .slice AX nX cX] 31)).drew.cell? ⟨wr.heap.size, 3, none⟩ = some (.int .i64 x4) := by rw [K0.drew.cell]; rfl
              have hqF : Hid (¬ F q) := fun hf => HS1.out.dis q hf (.inl rfl)
              have hxF : Hid (¬ F wr.heap.size) := fun hf => by have := (HS.out.at_.lt hf).2; omega
              by_cases hat : J < x.1.length
              · have hat' : ((J : Int) < (x.1.length : Int)) := by omega
                have kf := And.intro kq k3
                clear kq k3
                go_wp2_with fail
                go_region_held3 (fun w' => w'.cell? ⟨q, K, none⟩ = some (.slice AD x.1.length cD) ∧ w'.cell? ⟨wr.heap.size, 3, none⟩ = some (.int .i64 x4)) (first | exact kf | exact kg)
                  (first | (go_at_call 15; refine (put_yes _ w.heap.size p 4096 (arrs R) F (K + 2) J (arr x) _ _ v HS2.out.at_ hax (by omega) (by rfl) hat hv).mono ?_; rintro e w3 ⟨rfl, ha, hO⟩; have kg : w3.cell? ⟨q, K, none⟩ = some (.slice AD x.1.length cD) ∧ w3.cell? ⟨wr.heap.size, 3, none⟩ = some (.int .i64 x4) := ⟨(hO.cell (by simp; omega) hqF.out).trans kf.1, (hO.cell (by simp) hxF.out).trans kf.2⟩))
                obtain ⟨g, hAD, hcg, hfg, hdB, hgl, _⟩ := Dw.get hda hD hat
                subst hAD
                rw [World.size_alloc] at hgl
                have HP := Lib.hid (HS2.out.put hx (w1 := w3.drew) (ha.below (belowD (Below.refl _ _))) hO.drew hdB hv)
                have hgx : g ≠ wr.heap.size := by have := ((HS.out.had.dat K x hx).lt hdB).2; omega
                have hgq : g ≠ q := fun e => HS1.out.had.dat_ne_row (by decide) hx hdB (by rw [e]; rfl)
                have hgF : ¬ F g := fun hf => HS1.out.dis g hf (.inr ⟨K, x, hx, hdB⟩)
                have kh : w3.drew.cell? ⟨q, K, none⟩ = some (.slice (some ⟨g, 0, none⟩) x.1.length cD) ∧ w3.drew.cell? ⟨wr.heap.size, 3, none⟩ = some (.int .i64 x4) ∧ w3.drew.cell? ⟨g, J, none⟩ = some (.int .u8 (x.1.getD J 0)) ∧ w3.drew.frozen? ⟨g, J, none⟩ = false :=
                  ⟨kg.1, kg.2, (hO.cell (by simp; omega) hgF).trans hcg, (hO.frozen (by simp; omega) hgF).trans hfg⟩
                obtain ⟨kh1, kh2, kh3, kh4⟩ := kh
                have hO2 := only_set w3.drew g J (.int .u8 v)
                have hsz3 := hO.size
                rw [World.size_drew, World.size_alloc] at hsz3
                have kn : (w3.drew.setCell ⟨g, J, none⟩ (.int .u8 v)).cell? ⟨q, K, none⟩ = some (.slice (some ⟨g, 0, none⟩) x.1.length cD) ∧ (w3.drew.setCell ⟨g, J, none⟩ (.int .u8 v)).cell? ⟨wr.heap.size, 3, none⟩ = some (.int .i64 x4) :=
                  ⟨(hO2.cell (by rw [World.size_drew]; show q < w3.heap.size; omega) (Ne.symm hgq)).trans kh1, (hO2.cell (by rw [World.size_drew]; show wr.heap.size < w3.heap.size; omega) (Ne.symm hgx)).trans kh2⟩
                have ko := And.intro kh1 kh2
                clear ha hO hO2 kh1 kh2
                go_wp2_with fail
                go_region_held3 (fun w' => w'.cell? ⟨q, K, none⟩ = some (.slice (some ⟨g, 0, none⟩) x.1.length cD) ∧ w'.cell? ⟨wr.heap.size, 3, none⟩ = some (.int .i64 x4)) (first | exact ko | exact kn) (fail)
                go_wp2_with fail
                go_roundw
                case rel => exact ⟨k + 1, _, _, by omega, by omega, by go_num, HP.out⟩
                case measure => simp [intOf]; omega
              · have hat' : ¬ ((J : Int) < (x.1.length : Int)) := by omega
                have kf := And.intro kq k3
                clear kq k3
                go_wp2_with fail
                go_region_held3 (fun w' => w'.cell? ⟨q, K, none⟩ = some (.slice AD x.1.length cD) ∧ w'.cell? ⟨wr.heap.size, 3, none⟩ = some (.int .i64 x4)) (first | exact kf | exact kg)
                  (first | (go_at_call 15; refine (putI_out _ w.heap.size p 4096 (arrs R) F HS2.out.at_ (K + 2) (arr x) _ _ v (by omega) hax (.inr (by simp [arr]; omega))).mono ?_; rintro e w3 ⟨rfl, rfl⟩; have kg := kf))
                go_wp2_with fail
                go_roundw
                case rel => exact ⟨k + 1, _, _, by omega, by omega, by go_num, HS2.out⟩
                case measure => simp [intOf]; omega

        · go_wp2_with fail
          go_meet
          exact ⟨R, F, HS.out⟩
      · have hkn : k = n := by omega
        subst hkn
        go_wp2_with fail
        go_meet
        exact ⟨R, F, HS.out⟩
  case rest =>
    obtain ⟨R, F, hs⟩ := hcut
    have HS := Lib.hid hs
    obtain ⟨AV, cV, hV0⟩ := hs.had.form
    subst hV0
    have hfew := hs.few
    clear hs HS0
    go_wp2_with fail
    go_loopw [13, 14] (fun s i wr => ∃ k : Nat, k ≤ R.length ∧ i = .int .i64 k ∧ s = .int .i64 (sizes ((R.map arr).take k)) ∧ Below wc.heap.size wc wr) (fun _ i _ => R.length - (intOf i).toNat)
    case atStart => exact ⟨0, by omega, by rfl, by rfl, Below.refl _ _⟩
    case round =>
      obtain ⟨k, hk, rfl, rfl, hb⟩ := hrel
      have HB := Lib.hid hb
      have HSk := Lib.hid (HS.out.below hb)
      clear hb
      by_cases hlt : k < R.length
      · obtain ⟨x, hx⟩ : ∃ x, R[k]? = some x := ⟨R[k]'(by omega), by simp⟩
        have hax := arrs_get hx
        have hda := HSk.out.had.dat k x hx
        have h29 := HS.out.short x (List.mem_of_getElem? hx)
        obtain ⟨q, cR, hV, hqc, hql⟩ := HSk.out.had.cell hx
        obtain ⟨AD, cD, hD, _⟩ := hda.slice
        rw [hD] at hqc hda
        have hAV : AV = some ⟨q, 0, none⟩ := by injection hV
        subst hAV
        have ge3 : IntKind.i64.wrap ((k : Int) + 3) = (k : Int) + 3 := IntWalk.i64_in _ (by omega)
        go_wp2_with fail
        refine (arrayI_yes wr _ p 4096 (arrs R) _ HSk.out.at_ (k + 2) (arr x) _ (by omega) hax).mono ?_
        rintro e w6 ⟨D, he, hd, hb⟩
        obtain ⟨AE, cE, hDe, _⟩ := hd.slice
        have hDe : D = .slice AE x.1.length cE := hDe
        subst hDe
        have he : e = .returned (.tuple #[.agg #[.int .i64 0, .int .i64 3, .int .i64 0, .bool false, .slice AE x.1.length cE], .bool true]) := he
        subst he
        have KA : Blk (w6.alloc (.cells #[.int .i64 0, .int .i64 3, .int .i64 0, .bool false, .slice AE x.1.length cE] 37)) w6.heap.size 37 #[.int .i64 0, .int .i64 3, .int .i64 0, .bool false, .slice AE x.1.length cE] := Blk.new _ _ _
        have hbA : Below wr.heap.size wr (w6.alloc (.cells #[.int .i64 0, .int .i64 3, .int .i64 0, .bool false, .slice AE x.1.length cE] 37)) := hb.alloc hb.size _
        have hqc6 : (w6.alloc (.cells #[.int .i64 0, .int .i64 3, .int .i64 0, .bool false, .slice AE x.1.length cE] 37)).cell? ⟨q, k, none⟩ = some (.slice AD x.1.length cD) := ((Only.of_below (S := fun _ => False) hbA).cell hql id).trans hqc
        have a4 : (w6.alloc (.cells #[.int .i64 0, .int .i64 3, .int .i64 0, .bool false, .slice AE x.1.length cE] 37)).cell? ⟨w6.heap.size, 4, none⟩ = some (.slice AE x.1.length cE) := by rw [KA.cell]; rfl
        have hbB : Below w6.heap.size w6 (w6.alloc (.cells #[.int .i64 0, .int .i64 3, .int .i64 0, .bool false, .slice AE x.1.length cE] 37)) := (Below.refl _ _).alloc (Nat.le_refl _) _
        have r1 : ∀ d os, (convert 29 9 (.slice AE x.1.length cE)).run Try.prog (grow (redrawn (w6.alloc (.cells #[.int .i64 0, .int .i64 3, .int .i64 0, .bool false, .slice AE x.1.length cE] 37)) d) os) = .ok (.string (strOfNums x.1)) (grow (redrawn (w6.alloc (.cells #[.int .i64 0, .int .i64 3, .int .i64 0, .bool false, .slice AE x.1.length cE] 37)) d) os) :=
          fun d os => By.run_conv (P := Try.prog) (((Dw.bs hd).below hbB).below (below_regrown _ d os)) 29 5 9 Try.underlying29 Try.underlying5 Try.underlying9 cE
        have r2 : ∀ d os, (convert 29 9 (.slice AD x.1.length cD)).run Try.prog (grow (redrawn (w6.alloc (.cells #[.int .i64 0, .int .i64 3, .int .i64 0, .bool false, .slice AE x.1.length cE] 37)) d) os) = .ok (.string (strOfNums x.1)) (grow (redrawn (w6.alloc (.cells #[.int .i64 0, .int .i64 3, .int .i64 0, .bool false, .slice AE x.1.length cE] 37)) d) os) :=
          fun d os => By.run_conv (P := Try.prog) (((Dw.bs hda).below hbA).below (below_regrown _ d os)) 29 5 9 Try.underlying29 Try.underlying5 Try.underlying9 cD
        have hST := sizes_take (R.map arr) k (arr x) (by simp [hx])
        have hSle := sizes_take_le (R.map arr) k
        have hall := sizes_arrs R HS.out.short
        have hlx : (arr x).data.length = x.1.length := rfl
        rw [hlx] at hST
        have HB6 := Lib.hid (HB.out.trans (hbA.mono HB.out.size))
        have HQ := Lib.hid hqc6
        have HQL : Hid (q < (w6.alloc (.cells #[.int .i64 0, .int .i64 3, .int .i64 0, .bool false, .slice AE x.1.length cE] 37)).heap.size) := Nat.lt_of_lt_of_le hql hbA.size
        clear hd hda hb hbA hbB KA
        generalize strOfNums x.1 = sx at r1 r2
        generalize hS : sizes ((R.map arr).take k) = S at *
        have g4 : ∀ d os, (grow (redrawn (w6.alloc (.cells #[.int .i64 0, .int .i64 3, .int .i64 0, .bool false, .slice AE x.1.length cE] 37)) d) os).cell? ⟨w6.heap.size, 4, none⟩ = some (.slice AE x.1.length cE) := fun d os => cell_regrown a4 d os
        have g5 : ∀ d os, (grow (redrawn (w6.alloc (.cells #[.int .i64 0, .int .i64 3, .int .i64 0, .bool false, .slice AE x.1.length cE] 37)) d) os).cell? ⟨q, k, none⟩ = some (.slice AD x.1.length cD) := fun d os => cell_regrown hqc6 d os
        have q1 : IntKind.i64.wrap (S + 8) = S + 8 := IntWalk.i64_in _ (by omega)
        have q2 : IntKind.i64.wrap (S + 8 + (x.1.length : Int)) = S + 8 + (x.1.length : Int) := IntWalk.i64_in _ (by omega)
        clear a4 hqc6
        go_wp2_with fail
        refine wp_region_quiet_below (by kernel_rfl) (by kernel_rfl) ?_
        go_big_quiet_step (fail)
        repeat (go_big_quiet_step (fail))
        refine wpQuiet_nil ?_
        intro w7 hw7
        have hb7 : Below (w6.alloc (.cells #[.int .i64 0, .int .i64 3, .int .i64 0, .bool false, .slice AE x.1.length cE] 37)).heap.size (w6.alloc (.cells #[.int .i64 0, .int .i64 3, .int .i64 0, .bool false, .slice AE x.1.length cE] 37)) w7 := by obtain ⟨pr, rfl⟩ := hw7; exact below_regrown _ _ _
        have HB7 := Lib.hid (HB6.out.trans (hb7.mono HB6.out.size))
        have hq7 : w7.cell? ⟨q, k, none⟩ = some (.slice AD x.1.length cD) := ((Only.of_below (S := fun _ => False) hb7).cell HQL.out id).trans HQ.out
        clear hw7 hb7 g4 g5 r1 r2
        go_wp2_with fail
        go_roundw
        case rel => exact ⟨k + 1, by omega, by go_num, by rw [hST, Int.add_assoc], HB7.out⟩
        case measure => simp [intOf]; omega
      · have hke : k = R.length := by omega
        subst hke
        have e2 : (((arrs R).length : Nat) : Int) = (R.length : Int) + 2 := by rw [arrs_len]; omega
        have e5 : IntKind.i64.wrap ((R.length : Int) + 2) = (R.length : Int) + 2 := IntWalk.i64_in _ (by omega)
        have e6 : (R.map arr).take R.length = R.map arr := List.take_of_length_le (by simp)
        rw [e6]
        go_wp2_with fail
        refine (usedI_c wr w.heap.size p 4096 (arrs R) _ HSk.out.at_).mono ?_
        rintro e w6 ⟨rfl, hb⟩
        have HB6 := Lib.hid (HB.out.trans (hb.mono HB.out.size))
        have HS6 := Lib.hid (HSk.out.below hb)
        clear hb
        rw [arrs_used]
        generalize sizes (R.map arr) = S
        go_wp2_with fail
        refine (countI_c w6 w.heap.size p 4096 _ _ HS6.out.at_).mono ?_
        rintro e w' ⟨rfl, rfl⟩
        rw [e2]
        go_wp2_with fail
        go_ret
        exact ⟨rfl, HS.out.keep.trans (HB6.out.mono HS.out.keep.size)⟩
theorem heapBytes_top (v0 : Value) (w : World) (u0 : Vw.Arg Try.prog w 22 v0) :
    Calls Try.prog 3 #[v0] w fun e w' => e = .returned (.bool true) ∧ Below w.heap.size w w' := by
  obtain ⟨A, n, c, rfl, _, _, _, hr⟩ := u0.rows Try.underlying22 cells_step8 (by omega)
  exact heapBytes_walk A n c w hr
end Go.Proofs.Ytjmpnkhgligdlaa
