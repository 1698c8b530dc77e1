/- The document's heap: Clear. -/
import Derived.Test.YtjmpnkhgligdlaaH8d
namespace Go.Proofs.Ytjmpnkhgligdlaa
open Go.RowKit On Hv Go.Sort
theorem clr_two {sz life owner : Int} {L : List Ar} (h : Hv.Good sz L) : clrTo life owner L 2 = L ∧ goneN life owner (L.take 2) = 0 := by
  obtain ⟨a, ha⟩ : ∃ a, L[0]? = some a := ⟨_, List.getElem?_eq_getElem (by have := h.two; omega)⟩
  obtain ⟨b, hb⟩ : ∃ b, L[1]? = some b := ⟨_, List.getElem?_eq_getElem (by have := h.two; omega)⟩
  have la := h.bufs 0 a (by omega) ha
  have lb := h.bufs 1 b (by omega) hb
  have ga : goneB life owner a = false := by unfold goneB; rw [la]; simp
  have gb : goneB life owner b = false := by unfold goneB; rw [lb]; simp
  constructor
  · rw [clrTo_same hb gb, clrTo_same ha ga, clrTo_zero]
  · rw [goneN_succ hb, if_neg (by rw [gb]; simp), goneN_succ ha, if_neg (by rw [ga]; simp)]; simp [goneN]
/-- a step in a world that has grown since -/
theorem chain_grown {u arrT ty : TypeId} {w wr W w' : World} {B p : Nat} {sz : Int} {L : List Ar} {F : Nat → Prop} (hBw : B ≤ w.heap.size) (hb : Below wr.heap.size wr W) (h : At u arrT ty w' B p sz L (More (More F w wr) W w')) (hO : Only F w wr) (hO' : Only (More F w wr) W w') :
    At u arrT ty w' B p sz L (More F w w') ∧ Only F w w' := by
  have hs := hb.size
  have hs2 := hO.size
  have hs3 := hO'.size
  refine More.chain (wr := wr) (h.mono (fun k hk => ?_) (fun k hk => ?_)) hO ((Only.of_below hb).trans hO' (fun _ _ h => h))
  · rcases hk with hk | ⟨h1, h2⟩
    · exact .inl hk
    · exact .inr ⟨by omega, h2⟩
  · rcases hk with hk | ⟨h1, h2⟩
    · exact h.lt (.inl hk)
    · by_cases e : W.heap.size ≤ k
      · exact h.lt (.inr ⟨e, h2⟩)
      · exact ⟨by omega, h2⟩
set_option maxHeartbeats 4000000 in
set_option maxRecDepth 100000 in
theorem clearR_c (w : World) (B p : Nat) (sz : Int) (L : List Ar) (F : Nat → Prop) (life owner : Int) (h : AtR w B p sz L F) :
    Calls Try.prog 27 #[.pointer (some ⟨p, 0, none⟩), .int .i64 life, .int .i64 owner] w (ClearPost (fun w L F => AtR w B p sz L F) w life owner L F) := by
  have H := Lib.hid h
  have hlen := h.good.len
  have htwo := h.good.two
  have hlo : (L.length : Int) ≤ 514 := by omega
  have HT := Lib.hid (clr_two (life := life) (owner := owner) h.good)
  have hBw : B ≤ w.heap.size := by have := h.lt h.self; omega
  clear h
  go_enter Try.func27, Try.ntmps27
  go_wp2_with fail
  go_loopw [7, 8] (fun s i wr => ∃ k : Nat, 2 ≤ k ∧ k ≤ L.length ∧ i = .int .i64 k ∧ s = .int .i64 (goneN life owner (L.take k)) ∧ AtR wr B p sz (clrTo life owner L k) (More F w wr) ∧ Only F w wr) (fun _ i _ => L.length - (intOf i).toNat)
  case atStart => exact ⟨2, Nat.le_refl _, htwo, rfl, by rw [HT.out.2], by rw [HT.out.1]; exact More.start H.out, Only.refl _ _⟩
  case round =>
    obtain ⟨k, hk2, hk, rfl, rfl, hat, hO⟩ := hrel
    have HAT := Lib.hid hat
    have HO := Lib.hid hO
    obtain ⟨q, c, R, h1, h2, h3, h4, h5, h6, h7, h8, h9, h10, h11⟩ := hat.open
    rw [clrTo_len] at h1 h6 h8
    have hc1 := h1.blk.cell 1
    simp at hc1
    by_cases hlt : k < L.length
    · obtain ⟨a, ha⟩ : ∃ a, L[k]? = some a := ⟨_, List.getElem?_eq_getElem hlt⟩
      have hxc : (clrTo life owner L k)[k]? = some a := by rw [clrTo_get]; exact ha
      obtain ⟨D, hx⟩ := map_get h3 hxc
      have d0 := h1.cell rfl hx (show 0 < 5 by omega)
      have d1 := h1.cell rfl hx (show 1 < 5 by omega)
      have d2 := h1.cell rfl hx (show 2 < 5 by omega)
      have d3 := h1.cell rfl hx (show 3 < 5 by omega)
      have d4 := h1.cell rfl hx (show 4 < 5 by omega)
      simp [cells5] at d0 d1 d2 d3 d4
      obtain ⟨AD, cD, hD, _⟩ := (h1.dat _ _ hx).slice
      simp only at hD
      subst hD
      have hdl : a.data.length ≤ 64 := h5.data a (List.mem_of_getElem? hxc)
      have hlf := h5.life a (List.mem_of_getElem? hxc)
      have HN := Lib.hid (goneN_succ (life := life) (owner := owner) ha)
      have hnb := goneN_le life owner L k
      have HXC := Lib.hid hxc
      have HNO : Hid (goneB life owner a = false → clrTo life owner L (k + 1) = clrTo life owner L k) := fun hg => clrTo_same ha hg
      have HYES : Hid (goneB life owner a = true → clrTo life owner L (k + 1) = (clrTo life owner L k).set k (a.with' (puts a.data 0 (List.replicate a.data.length 0) (List.replicate a.data.length (0 : Int)).length))) := by
        intro hg
        rw [gone_yes ha hg, List.length_replicate, puts_zeros]; rfl
      have hmk := make_bytes a.data.length (by omega)
      have HB : Hid (goneB life owner a = ((life == 1 && a.life != 0) || (life == 2 && a.life == 2 && a.owner == owner))) := rfl
      have HDL : Hid (0 + (List.replicate a.data.length (0 : Int)).length ≤ a.data.length) := by unfold Hid; simp
      generalize goneN life owner (L.take k) = S at *
      obtain ⟨m, hm⟩ : ∃ m, m = a.data.length := ⟨_, rfl⟩
      obtain ⟨al, hal⟩ : ∃ x, x = a.life := ⟨_, rfl⟩
      obtain ⟨ao, hao⟩ : ∃ x, x = a.owner := ⟨_, rfl⟩
      obtain ⟨ab, hab⟩ : ∃ x, x = a.label := ⟨_, rfl⟩
      obtain ⟨ash, has⟩ : ∃ x, x = a.share := ⟨_, rfl⟩
      rw [← hm] at d4 hdl hmk
      rw [← hal] at d2 hlf
      rw [← hao] at d0
      rw [← hab] at d1
      rw [← has] at d3
      have HM := Lib.hid hm
      have HBV : Hid (goneB life owner a = ((life == 1 && al != 0) || (life == 2 && al == 2 && ao == owner))) := by rw [HB.out, hal, hao]; exact rfl
      have hwq : q < wr.heap.size := h10
      have K0 : Blk (wr.alloc (.cells #[.int .i64 ao, .int .i64 ab, .int .i64 al, .bool ash, .slice AD m cD] 37)) wr.heap.size 37 #[.int .i64 ao, .int .i64 ab, .int .i64 al, .bool ash, .slice AD m cD] := Blk.new _ _ _
      clear HB hm hal hao hab has hat hO h1 h2 h3 h4 h5 h6 h7 h8 h9 hxc hx ha K0
      by_cases t1 : life = 1
      · subst t1
        by_cases t2 : al = 0
        · subst t2
          have HV : Hid ((((1 : Int) == 1 && (0 : Int) != 0) || ((1 : Int) == 2 && (0 : Int) == 2 && ao == owner)) = false) := by unfold Hid; simp
          have HH : Hid (AtR (wr.alloc (.cells #[.int .i64 ao, .int .i64 ab, .int .i64 0, .bool ash, .slice AD m cD] 37)) B p sz (clrTo 1 owner L k) (More F w (wr.alloc (.cells #[.int .i64 ao, .int .i64 ab, .int .i64 0, .bool ash, .slice AD m cD] 37))) ∧ Only F w (wr.alloc (.cells #[.int .i64 ao, .int .i64 ab, .int .i64 0, .bool ash, .slice AD m cD] 37))) := chain_grown hBw (Below.refl _ _) (At.same HAT.out ((Below.refl _ _).alloc (Nat.le_refl _) _)).1 HO.out ((Only.refl _ _).alloc _)
          skip
          go_wp2_with fail
          go_roundw
          case rel => exact ⟨k + 1, by omega, by omega, by go_num, by rw [HN.out, if_neg (by rw [HBV.out.trans HV.out]; simp)]; go_num, by rw [HNO.out (HBV.out.trans HV.out)]; exact (HH.out).1, (HH.out).2⟩
          case measure => simp [intOf]; omega
        · have e2 : (al != 0) = true := bne_iff_ne.mpr t2
          have e2' : 0 < al := by omega
          have HV : Hid ((((1 : Int) == 1 && al != 0) || ((1 : Int) == 2 && al == 2 && ao == owner)) = true) := by unfold Hid; simp [e2]
          clear t2
          go_wp2_with fail
          refine (putR_c _ B (wr.heap.size + 1) p sz _ (More F w wr) ((HAT.out.below ((Below.refl _ _).alloc (Nat.le_refl _) _)).below ((Below.refl _ _).alloc (Nat.le_refl _) _)) k 0 a _ _ _ (List.replicate a.data.length 0) rfl rfl HXC.out (by have := Dw.made (wr.alloc (.cells #[.int .i64 ao, .int .i64 ab, .int .i64 al, .bool ash, .slice AD m cD] 37)) m (by omega); rw [World.size_alloc] at this; rw [← HM.out]; exact this) HDL.out).mono ?_
          rintro e w2 ⟨rfl, hr2, hO2⟩
          rw [← HYES.out (HBV.out.trans HV.out)] at hr2
          have HC := Lib.hid (chain_grown hBw (((Below.refl _ _).alloc (Nat.le_refl _) _).alloc (by simp) _) hr2 HO.out hO2)
          clear hr2 hO2
          go_wp2_with fail
          go_roundw
          case rel => exact ⟨k + 1, by omega, by omega, by go_num, by rw [HN.out, if_pos (HBV.out.trans HV.out)], HC.out.1, HC.out.2⟩
          case measure => simp [intOf]; omega
      · have e1 : (life == 1) = false := beq_eq_false_iff_ne.mpr t1
        by_cases t3 : life = 2
        · subst t3
          by_cases t4 : al = 2
          · subst t4
            by_cases t5 : ao = owner
            · subst t5
              have HV : Hid ((((2 : Int) == 1 && (2 : Int) != 0) || ((2 : Int) == 2 && (2 : Int) == 2 && ao == ao)) = true) := by unfold Hid; simp
              skip
              go_wp2_with fail
              refine (putR_c _ B (wr.heap.size + 1) p sz _ (More F w wr) ((HAT.out.below ((Below.refl _ _).alloc (Nat.le_refl _) _)).below ((Below.refl _ _).alloc (Nat.le_refl _) _)) k 0 a _ _ _ (List.replicate a.data.length 0) rfl rfl HXC.out (by have := Dw.made (wr.alloc (.cells #[.int .i64 ao, .int .i64 ab, .int .i64 2, .bool ash, .slice AD m cD] 37)) m (by omega); rw [World.size_alloc] at this; rw [← HM.out]; exact this) HDL.out).mono ?_
              rintro e w2 ⟨rfl, hr2, hO2⟩
              rw [← HYES.out (HBV.out.trans HV.out)] at hr2
              have HC := Lib.hid (chain_grown hBw (((Below.refl _ _).alloc (Nat.le_refl _) _).alloc (by simp) _) hr2 HO.out hO2)
              clear hr2 hO2
              go_wp2_with fail
              go_roundw
              case rel => exact ⟨k + 1, by omega, by omega, by go_num, by rw [HN.out, if_pos (HBV.out.trans HV.out)], HC.out.1, HC.out.2⟩
              case measure => simp [intOf]; omega
            · have e5 : (ao == owner) = false := beq_eq_false_iff_ne.mpr t5
              have HV : Hid ((((2 : Int) == 1 && (2 : Int) != 0) || ((2 : Int) == 2 && (2 : Int) == 2 && ao == owner)) = false) := by unfold Hid; simp [e5]
              have HH : Hid (AtR (wr.alloc (.cells #[.int .i64 ao, .int .i64 ab, .int .i64 2, .bool ash, .slice AD m cD] 37)) B p sz (clrTo 2 owner L k) (More F w (wr.alloc (.cells #[.int .i64 ao, .int .i64 ab, .int .i64 2, .bool ash, .slice AD m cD] 37))) ∧ Only F w (wr.alloc (.cells #[.int .i64 ao, .int .i64 ab, .int .i64 2, .bool ash, .slice AD m cD] 37))) := chain_grown hBw (Below.refl _ _) (At.same HAT.out ((Below.refl _ _).alloc (Nat.le_refl _) _)).1 HO.out ((Only.refl _ _).alloc _)
              clear t5
              go_wp2_with fail
              go_roundw
              case rel => exact ⟨k + 1, by omega, by omega, by go_num, by rw [HN.out, if_neg (by rw [HBV.out.trans HV.out]; simp)]; go_num, by rw [HNO.out (HBV.out.trans HV.out)]; exact (HH.out).1, (HH.out).2⟩
              case measure => simp [intOf]; omega
          · have e4 : (al == 2) = false := beq_eq_false_iff_ne.mpr t4
            have HV : Hid ((((2 : Int) == 1 && al != 0) || ((2 : Int) == 2 && al == 2 && ao == owner)) = false) := by unfold Hid; simp [e4]
            have HH : Hid (AtR (wr.alloc (.cells #[.int .i64 ao, .int .i64 ab, .int .i64 al, .bool ash, .slice AD m cD] 37)) B p sz (clrTo 2 owner L k) (More F w (wr.alloc (.cells #[.int .i64 ao, .int .i64 ab, .int .i64 al, .bool ash, .slice AD m cD] 37))) ∧ Only F w (wr.alloc (.cells #[.int .i64 ao, .int .i64 ab, .int .i64 al, .bool ash, .slice AD m cD] 37))) := chain_grown hBw (Below.refl _ _) (At.same HAT.out ((Below.refl _ _).alloc (Nat.le_refl _) _)).1 HO.out ((Only.refl _ _).alloc _)
            clear t4
            go_wp2_with fail
            go_roundw
            case rel => exact ⟨k + 1, by omega, by omega, by go_num, by rw [HN.out, if_neg (by rw [HBV.out.trans HV.out]; simp)]; go_num, by rw [HNO.out (HBV.out.trans HV.out)]; exact (HH.out).1, (HH.out).2⟩
            case measure => simp [intOf]; omega
        · have e3 : (life == 2) = false := beq_eq_false_iff_ne.mpr t3
          have HV : Hid (((life == 1 && al != 0) || (life == 2 && al == 2 && ao == owner)) = false) := by unfold Hid; simp [e1, e3]
          have HH : Hid (AtR (wr.alloc (.cells #[.int .i64 ao, .int .i64 ab, .int .i64 al, .bool ash, .slice AD m cD] 37)) B p sz (clrTo life owner L k) (More F w (wr.alloc (.cells #[.int .i64 ao, .int .i64 ab, .int .i64 al, .bool ash, .slice AD m cD] 37))) ∧ Only F w (wr.alloc (.cells #[.int .i64 ao, .int .i64 ab, .int .i64 al, .bool ash, .slice AD m cD] 37))) := chain_grown hBw (Below.refl _ _) (At.same HAT.out ((Below.refl _ _).alloc (Nat.le_refl _) _)).1 HO.out ((Only.refl _ _).alloc _)
          clear t1 t3
          go_wp2_with fail
          go_roundw
          case rel => exact ⟨k + 1, by omega, by omega, by go_num, by rw [HN.out, if_neg (by rw [HBV.out.trans HV.out]; simp)]; go_num, by rw [HNO.out (HBV.out.trans HV.out)]; exact (HH.out).1, (HH.out).2⟩
          case measure => simp [intOf]; omega
    · have : k = L.length := by omega
      subst this
      clear h1 h2 h3 h4 h5 h6 h7 h8 h9
      go_wp2_with fail
      go_ret
      exact ⟨by rw [List.take_length]; rfl, by rw [← clrTo_all]; exact HAT.out, HO.out⟩
end Go.Proofs.Ytjmpnkhgligdlaa
