/- Package heap: Clear. -/
import Derived.Test.YtjmpnkhgligdlaaH8a
import Derived.Test.YtjmpnkhgligdlaaH8p
namespace Go.Proofs.Ytjmpnkhgligdlaa
open Go.RowKit On Hv Go.Sort
theorem good_clr {sz life owner : Int} {L : List Ar} {k : Nat} {a : Ar} (h : Hv.Good sz (clrTo life owner L k)) (ha : L[k]? = some a) : Hv.Good sz ((clrTo life owner L k).set k (zeros a)) := by
  have hx : (clrTo life owner L k)[k]? = some a := by rw [clrTo_get]; exact ha
  refine h.set hx (.inr (by simp [zeros, Ar.with'])) ?_ rfl
  have := h.data a (List.mem_of_getElem? hx)
  simpa [zeros, Ar.with'] using this
def ClearPost (P : World → List Ar → (Nat → Prop) → Prop) (w : World) (life owner : Int) (L : List Ar) (F : Nat → Prop) (e : Ending) (w' : World) : Prop :=
  e = .returned (.int .i64 (goneN life owner L)) ∧ P w' (L.map (clr1 life owner)) (More F w w') ∧ Only F w w'
theorem gone_yes {life owner : Int} {L : List Ar} {k : Nat} {a : Ar} (ha : L[k]? = some a) (hg : goneB life owner a = true) : clrTo life owner L (k + 1) = (clrTo life owner L k).set k (zeros a) := by
  rw [clrTo_succ ha, clr1, if_pos hg]
set_option maxHeartbeats 4000000 in
set_option maxRecDepth 100000 in
theorem clearI_c (w : World) (B p : Nat) (sz : Int) (L : List Ar) (F : Nat → Prop) (life owner : Int) (h : AtI w B p sz L F) :
    Calls Try.prog 21 #[.pointer (some ⟨p, 0, none⟩), .int .i64 life, .int .i64 owner] w (ClearPost (fun w L F => AtI w B p sz L F) w life owner L F) := by
  have H := Lib.hid h
  have hlen := h.good.len
  have hc1 : ∃ q c, w.cell? ⟨p, 1, none⟩ = some (.slice (some ⟨q, 0, none⟩) L.length c) := by
    obtain ⟨q, c, R, h1, _⟩ := h.open
    exact ⟨q, c, by have := h1.blk.cell 1; simpa using this⟩
  obtain ⟨q0, c0, hc1⟩ := hc1
  have hlo : (L.length : Int) ≤ 514 := by omega
  clear h
  go_enter Try.func21, Try.ntmps21
  go_wp2_with fail
  go_loopw [7, 15] (fun s i wr => ∃ k : Nat, k ≤ L.length ∧ i = .int .i64 k ∧ s = .int .i64 (goneN life owner (L.take k)) ∧ AtI wr B p sz (clrTo life owner L k) (More F w wr) ∧ Only F w wr) (fun _ i _ => L.length - (intOf i).toNat)
  case atStart => exact ⟨0, Nat.zero_le _, rfl, rfl, by rw [clrTo_zero]; exact More.start H.out, Only.refl _ _⟩
  case round =>
    obtain ⟨k, hk, rfl, rfl, hat, hO⟩ := hrel
    clear hc1
    have HAT := Lib.hid hat
    have HO := Lib.hid hO
    by_cases hlt : k < L.length
    · obtain ⟨a, ha⟩ : ∃ a, L[k]? = some a := ⟨_, List.getElem?_eq_getElem hlt⟩
      have hxc : (clrTo life owner L k)[k]? = some a := by rw [clrTo_get]; exact ha
      obtain ⟨q, c, R, h1, h2, h3, h4, h5, h6, h7, h8, h9, h10, h11⟩ := hat.open
      rw [clrTo_len] at h1 h6 h8
      obtain ⟨D, hx⟩ := map_get h3 hxc
      have hc1 := h1.blk.cell 1
      simp at hc1
      have d0 := h1.cell rfl hx (show 0 < 5 by omega)
      have d2 := h1.cell rfl hx (show 2 < 5 by omega)
      have d4 := h1.cell rfl hx (show 4 < 5 by omega)
      have hf4 : wr.frozen? ⟨q, k * 5 + 4, none⟩ = false := by
        have hr0 := h1.row
        rw [h4, clrTo_len] at hr0
        exact hr0.frozenAt (k * 5 + 4)
      simp [cells5] at d0 d2 d4
      obtain ⟨AD, cD, hD, _⟩ := (h1.dat _ _ hx).slice
      simp only at hD
      subst hD
      have hdl : a.data.length ≤ 64 := h5.data a (List.mem_of_getElem? hxc)
      have hlf := h5.life a (List.mem_of_getElem? hxc)
      have HN := Lib.hid (goneN_succ (life := life) (owner := owner) ha)
      have hnb := goneN_le life owner L k
      have HG : Hid (Hv.Good sz ((clrTo life owner L k).set k (zeros a))) := good_clr h5 ha
      have HY : Hid (goneB life owner a = true → AtI ((wr.alloc (.cells (madeCells #[.int .u8 0] a.data.length) 5)).setCell ⟨q, k * 5 + 4, none⟩ (.slice (some ⟨wr.heap.size, 0, none⟩) a.data.length a.data.length)) B p sz (clrTo life owner L (k + 1)) (More F w ((wr.alloc (.cells (madeCells #[.int .u8 0] a.data.length) 5)).setCell ⟨q, k * 5 + 4, none⟩ (.slice (some ⟨wr.heap.size, 0, none⟩) a.data.length a.data.length))) ∧ Only F w ((wr.alloc (.cells (madeCells #[.int .u8 0] a.data.length) 5)).setCell ⟨q, k * 5 + 4, none⟩ (.slice (some ⟨wr.heap.size, 0, none⟩) a.data.length a.data.length))) := by
        intro hg
        rw [gone_yes ha hg]
        have hl := clrTo_len life owner L k
        have h1' : HpI wr B p sz (.slice (some ⟨q, 0, none⟩) (clrTo life owner L k).length c) R := by rw [hl]; exact h1
        obtain ⟨m1, m2⟩ := At.repl (w := wr) (w1 := wr.alloc (.cells (madeCells #[.int .u8 0] a.data.length) 5)) (F := More F w wr) (by decide) (by decide) (h1'.below ((Below.refl _ _).alloc (Nat.le_refl _) _)) h2 h3 (by rw [hl]; exact h6) h7 ((Below.refl _ _).alloc (Nat.le_refl _) _) hxc (Dw.made wr a.data.length (by omega)) HG.out
        exact More.chain m1 hO m2
      rw [World.setCell_alloc_past _ _ _ _ (by omega)] at HY
      have HNO : Hid (goneB life owner a = false → clrTo life owner L (k + 1) = clrTo life owner L k) := fun hg => clrTo_same ha hg
      have hmk := make_bytes a.data.length (by omega)
      have HB : Hid (goneB life owner a = ((life == 1 && a.life != 0) || (life == 2 && a.life == 2 && a.owner == owner))) := rfl
      generalize goneN life owner (L.take k) = S at *
      generalize a.data.length = m at *
      generalize a.life = al at *
      generalize a.owner = ao at *
      clear hat hO h1 h2 h3 h4 h5 h6 h7 h8 h9 hxc hx ha
      by_cases t1 : life = 1
      · subst t1
        by_cases t2 : al = 0
        · subst t2
          have HV : Hid ((((1 : Int) == 1 && (0 : Int) != 0) || ((1 : Int) == 2 && (0 : Int) == 2 && ao == owner)) = false) := by unfold Hid; simp
          skip
          go_wp2_with fail
          go_roundw
          case rel => exact ⟨k + 1, by omega, by go_num, by rw [HN.out, if_neg (by rw [HB.out.trans HV.out]; simp)]; go_num, by rw [HNO.out (HB.out.trans HV.out)]; exact HAT.out, HO.out⟩
          case measure => simp [intOf]; omega
        · have e2 : (al != 0) = true := bne_iff_ne.mpr t2
          have HV : Hid ((((1 : Int) == 1 && al != 0) || ((1 : Int) == 2 && al == 2 && ao == owner)) = true) := by unfold Hid; simp [e2]
          clear t2
          go_wp2_with fail
          go_roundw
          case rel => exact ⟨k + 1, by omega, by go_num, by rw [HN.out, if_pos (HB.out.trans HV.out)], (HY.out (HB.out.trans HV.out)).1, (HY.out (HB.out.trans HV.out)).2⟩
          case measure => simp [intOf]; omega
      · have e1 : (life == 1) = false := beq_eq_false_iff_ne.mpr t1
        by_cases t3 : life = 2
        · subst t3
          by_cases t4 : al = 2
          · subst t4
            by_cases t5 : ao = owner
            · subst t5
              have HV : Hid ((((2 : Int) == 1 && (2 : Int) != 0) || ((2 : Int) == 2 && (2 : Int) == 2 && ao == ao)) = true) := by unfold Hid; simp
              skip
              go_wp2_with fail
              go_roundw
              case rel => exact ⟨k + 1, by omega, by go_num, by rw [HN.out, if_pos (HB.out.trans HV.out)], (HY.out (HB.out.trans HV.out)).1, (HY.out (HB.out.trans HV.out)).2⟩
              case measure => simp [intOf]; omega
            · have e5 : (ao == owner) = false := beq_eq_false_iff_ne.mpr t5
              have HV : Hid ((((2 : Int) == 1 && (2 : Int) != 0) || ((2 : Int) == 2 && (2 : Int) == 2 && ao == owner)) = false) := by unfold Hid; simp [e5]
              clear t5
              go_wp2_with fail
              go_roundw
              case rel => exact ⟨k + 1, by omega, by go_num, by rw [HN.out, if_neg (by rw [HB.out.trans HV.out]; simp)]; go_num, by rw [HNO.out (HB.out.trans HV.out)]; exact HAT.out, HO.out⟩
              case measure => simp [intOf]; omega
          · have e4 : (al == 2) = false := beq_eq_false_iff_ne.mpr t4
            have HV : Hid ((((2 : Int) == 1 && al != 0) || ((2 : Int) == 2 && al == 2 && ao == owner)) = false) := by unfold Hid; simp [e4]
            clear t4
            go_wp2_with fail
            go_roundw
            case rel => exact ⟨k + 1, by omega, by go_num, by rw [HN.out, if_neg (by rw [HB.out.trans HV.out]; simp)]; go_num, by rw [HNO.out (HB.out.trans HV.out)]; exact HAT.out, HO.out⟩
            case measure => simp [intOf]; omega
        · have e3 : (life == 2) = false := beq_eq_false_iff_ne.mpr t3
          have HV : Hid (((life == 1 && al != 0) || (life == 2 && al == 2 && ao == owner)) = false) := by unfold Hid; simp [e1, e3]
          clear t1 t3
          go_wp2_with fail
          go_roundw
          case rel => exact ⟨k + 1, by omega, by go_num, by rw [HN.out, if_neg (by rw [HB.out.trans HV.out]; simp)]; go_num, by rw [HNO.out (HB.out.trans HV.out)]; exact HAT.out, HO.out⟩
          case measure => simp [intOf]; omega
    · have : k = L.length := by omega
      subst this
      go_wp2_with fail
      go_ret
      exact ⟨by rw [List.take_length]; rfl, by rw [← clrTo_all]; exact HAT.out, HO.out⟩
end Go.Proofs.Ytjmpnkhgligdlaa
