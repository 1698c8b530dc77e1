/- Package heap: Copy. -/
import Derived.Test.YtjmpnkhgligdlaaH8g
namespace Go.Proofs.Ytjmpnkhgligdlaa
open Go.RowKit On Hv Go.Sort
def CopyPost (w : World) (sz : Int) (L : List Ar) (e : Ending) (w' : World) : Prop :=
  ∃ p, e = .returned (.pointer (some ⟨p, 0, none⟩)) ∧ AtI w' w.heap.size p sz L (fun k => w.heap.size ≤ k ∧ k < w'.heap.size) ∧ Below w.heap.size w w'
set_option maxHeartbeats 8000000 in
set_option maxRecDepth 100000 in
theorem copyI_c (w : World) (B p : Nat) (sz : Int) (L : List Ar) (F : Nat → Prop) (h : AtI w B p sz L F) :
    Calls Try.prog 28 #[.pointer (some ⟨p, 0, none⟩)] w (CopyPost w sz L) := by
  obtain ⟨i0, hi0, hz0, hz1, hz2⟩ := info_parts info_arr
  have H := Lib.hid h
  have hlen := h.good.len
  have hcs : w.cell? ⟨p, 0, none⟩ = some (.int .i64 sz) := by
    obtain ⟨V, R, h1, _⟩ := h; have := h1.blk.cell 0; simpa using this
  have hc1 : ∃ q c, w.cell? ⟨p, 1, none⟩ = some (.slice (some ⟨q, 0, none⟩) L.length c) := by
    obtain ⟨q, c, R, h1, _⟩ := h.open
    exact ⟨q, c, by have := h1.blk.cell 1; simpa using this⟩
  obtain ⟨q0, c0, hc1⟩ := hc1
  have hp : p < w.heap.size := (h.lt h.self).2
  have hlo : (L.length : Int) ≤ 514 := by omega
  have HC1 := Lib.hid hc1
  clear h
  obtain ⟨w0, hw0⟩ : ∃ w0, w0 = w.alloc (.cells #[.int .i64 sz, .slice none 0 0] 68) := ⟨_, rfl⟩
  have HST : Hid (HpI w0 w.heap.size w.heap.size sz (.slice none 0 0) [] ∧ Below w.heap.size w w0) := by
    subst hw0
    exact ⟨⟨Nat.le_refl _, Blk.new _ _ _, World.ownsRow_nil _ _ _ _, fun i x hx => by simp at hx⟩, (Below.refl _ _).alloc (Nat.le_refl _) _⟩
  have HW0 := Lib.hid hw0
  clear hw0
  go_enter Try.func28, Try.ntmps28
  go_wp2_with fail
  rw [← HW0.out]
  clear HW0 hc1
  go_loopw [4] (fun i wr => ∃ (k : Nat) (V : Value) (R : List (Ar × Value)), k ≤ L.length ∧ i = .int .i64 ((k : Int) + 1) ∧ HpI wr w.heap.size w.heap.size sz V R ∧ Apart R ∧ R.map Prod.fst = L.take k ∧ Below w.heap.size w wr) (fun i _ => L.length + 1 - (intOf i).toNat)
  case atStart => exact ⟨0, _, [], Nat.zero_le _, rfl, HST.out.1, fun i j x y k hx => by simp at hx, by simp, HST.out.2⟩
  case round =>
    obtain ⟨k, V, R, hk, rfl, hh, hap, hmap, hb⟩ := hrel
    have HH := Lib.hid hh; have HAP := Lib.hid hap; have HMAP := Lib.hid hmap; have HB := Lib.hid hb
    have hcl : wr.cell? ⟨p, 1, none⟩ = some (.slice (some ⟨q0, 0, none⟩) L.length c0) := (hb.cell (p := ⟨p, 1, none⟩) hp).trans HC1.out
    clear hh hap hmap hb hcs
    by_cases hlt : k < L.length
    · obtain ⟨a, ha⟩ : ∃ a, L[k]? = some a := ⟨_, List.getElem?_eq_getElem hlt⟩
      have HA := Lib.hid ha
      have hRl : R.length = k := by
        have := congrArg List.length HMAP.out; simp at this; omega
      have HRL := Lib.hid hRl
      clear ha hRl
      go_wp2_with fail
      refine (arrayI_yes wr B p sz L F (H.out.below HB.out) k a _ rfl HA.out).mono ?_
      rintro e w1 ⟨D, rfl, hd, hb1⟩
      obtain ⟨AD, cD, rfl, _⟩ := hd.slice
      have hV := HH.out.blk.cell 1
      obtain ⟨A2, c2, rfl⟩ := own_form HH.out.row
      rw [HRL.out] at hV
      have hs1 := hb1.size
      have hwr := HB.out.size
      have hpw : w.heap.size < wr.heap.size := HH.out.blk.lt
      have hcw : w1.cell? ⟨w.heap.size, 1, none⟩ = some (.slice A2 k c2) := (hb1.cell (p := ⟨w.heap.size, 1, none⟩) hpw).trans (by simpa using hV)
      have hp1 : w.heap.size < w1.heap.size := by omega
      have hp2 : w.heap.size < w1.heap.size + 1 := by omega
      obtain ⟨W1, hW1⟩ : ∃ W1, W1 = w1.alloc (.cells #[.int .i64 a.owner, .int .i64 a.label, .int .i64 a.life, .bool a.share, .slice AD a.data.length cD] 37) := ⟨_, rfl⟩
      have HH1 : Hid (HpI W1 w.heap.size w.heap.size sz (.slice A2 k c2) R) := by
        have := HH.out.below hb1; rw [hW1, ← HRL.out]; exact HpV.below this ((Below.refl _ _).alloc (Nat.le_refl _) _)
      have HB1 : Hid (Below w.heap.size w W1) := by rw [hW1]; exact (HB.out.trans (hb1.mono hwr)).alloc (by omega) _
      have HD1 : Hid (Dw 5 W1 w.heap.size (.slice AD a.data.length cD) a.data ∧ ∀ k', dB (.slice AD a.data.length cD) a.data = some k' → wr.heap.size ≤ k') := by
        rw [hW1]; exact ⟨(hd.mono hwr).keep (S := fun _ => False) ((Only.refl _ _).alloc _) (fun _ _ h => h), fun k' hk' => (hd.lt hk').1⟩
      have hWs : W1.heap.size = w1.heap.size + 1 := by rw [hW1, World.size_alloc]
      have HWS := Lib.hid hWs
      have HS : Hid (Src ((W1.alloc (.cells #[.int .i64 a.owner, .int .i64 a.label, .int .i64 a.life, .bool a.share, .slice AD a.data.length cD] 37)).drew) (some ⟨W1.heap.size, 0, none⟩) 1 5 [.int .i64 a.owner, .int .i64 a.label, .int .i64 a.life, .bool a.share, .slice AD a.data.length cD]) := by
        have := Src.block W1 37 5 [.int .i64 a.owner, .int .i64 a.label, .int .i64 a.life, .bool a.share, .slice AD a.data.length cD] rfl (by simp [Value.oneCell']) (0, 0)
        exact ⟨this.len, this.none_, this.cell, this.one⟩
      have hKA : Blk W1 w1.heap.size 37 #[.int .i64 a.owner, .int .i64 a.label, .int .i64 a.life, .bool a.share, .slice AD a.data.length cD] := by rw [hW1]; exact Blk.new _ _ _
      have hcW : W1.cell? ⟨w.heap.size, 1, none⟩ = some (.slice A2 k c2) := by rw [hW1, World.cell?_alloc_lt _ _ _ hp1]; exact hcw
      have e0 := hKA.cell 0
      have e1 := hKA.cell 1
      have e2 := hKA.cell 2
      have e3 := hKA.cell 3
      have e4 := hKA.cell 4
      simp at e0 e1 e2 e3 e4
      have hpW : w.heap.size < W1.heap.size := by omega
      have HNE : Hid ((Value.slice A2 k c2).ownBlock ≠ some w.heap.size) := by
        have := HH1.out.row
        rw [HRL.out] at this
        intro e
        obtain ⟨A', c', e', ⟨rfl, _⟩ | ⟨g', cur, rfl, _, hg', _⟩⟩ := own_slice this
        · injection e' with e' _ _; subst e'; simp [Value.ownBlock] at e
        · injection e' with e' _ _; subst e'; simp [Value.ownBlock] at e; subst e; exact (hg'.ne HH1.out.blk (by decide)) rfl
      have HOWN : Hid (((W1.alloc (.cells #[.int .i64 a.owner, .int .i64 a.label, .int .i64 a.life, .bool a.share, .slice AD a.data.length cD] 37)).drew).ownsRow w.heap.size 37 5 (.slice A2 k c2) k (flat R)) := by
        have := HH1.out.row; rw [HRL.out] at this; exact (this.alloc _).drew
      have HRUN : Hid (W1 = w1.alloc (.cells #[.int .i64 a.owner, .int .i64 a.label, .int .i64 a.life, .bool a.share, .slice AD a.data.length cD] 37)) := hW1
      have hk514 : k ≤ 514 := by omega
      clear hd hb1 hV hcw hKA hW1 hcl hWs
      go_wp2_with fail
      rw [← HRUN.out]
      go_region_law ((refine step_append_at _ (by rfl) (.tmp 32) (.tmp 34) _ (by rfl) w.heap.size 37 i0 _ 5 56 Try.underlying47 hi0 hz0 hz1 hz2 rfl (by omega) _ k (flat R) (by rfl) HOWN.out (some ⟨W1.heap.size, 0, none⟩) 1 1 _ (by rfl) HS.out nofun (by unfold maxLen; omega) (by omega) (by simp; omega) ?_; intro A' c' w3 hown3 hg3 hat; have hf3 : w3.frozen? ⟨w.heap.size, 1, none⟩ = false := (World.frozen?_of_block (a := ⟨w.heap.size, 1, none⟩) (hg3.block w.heap.size (by simp; omega) (fun e => HNE.out e.symm))).trans (by exact (HH1.out.blk.alloc _).frozen 1); have hc3 : w3.cell? ⟨w.heap.size, 1, none⟩ = some (.slice A2 k c2) := (World.cell?_of_block (a := ⟨w.heap.size, 1, none⟩) (hg3.block w.heap.size (by simp; omega) (fun e => HNE.out e.symm))).trans (by have := (HH1.out.blk.alloc (.cells #[.int .i64 a.owner, .int .i64 a.label, .int .i64 a.life, .bool a.share, .slice AD a.data.length cD] 37)).cell 1; simpa using this)))
      all_goals
        have HR : Hid (HpI (w3.setCell ⟨w.heap.size, 1, none⟩ (.slice A' (k + 1) c')) w.heap.size w.heap.size sz (.slice A' (k + 1) c') (R ++ [(a, .slice AD a.data.length cD)]) ∧ Apart (R ++ [(a, .slice AD a.data.length cD)]) ∧ Below w.heap.size w (w3.setCell ⟨w.heap.size, 1, none⟩ (.slice A' (k + 1) c'))) := by
          have hgr : (W1.alloc (.cells #[.int .i64 a.owner, .int .i64 a.label, .int .i64 a.life, .bool a.share, .slice AD a.data.length cD] 37)).grownBy w3 (Value.slice A2 k c2).ownBlock := ⟨hg3.os, hg3.tape, hg3.output, hg3.size, hg3.block⟩
          have h' : HpI (W1.alloc (.cells #[.int .i64 a.owner, .int .i64 a.label, .int .i64 a.life, .bool a.share, .slice AD a.data.length cD] 37)) w.heap.size w.heap.size sz (.slice A2 k c2) R := HpV.below HH1.out ((Below.refl _ _).alloc (Nat.le_refl _) _)
          have hD' : Dw 5 (W1.alloc (.cells #[.int .i64 a.owner, .int .i64 a.label, .int .i64 a.life, .bool a.share, .slice AD a.data.length cD] 37)) w.heap.size (.slice AD a.data.length cD) a.data := HD1.out.1.keep (S := fun _ => False) ((Only.refl _ _).alloc _) (fun _ _ h => h)
          have hfr : ∀ k', dB (.slice AD a.data.length cD) a.data = some k' → ¬ Foot w.heap.size (.slice A2 k c2) R k' := by
            intro k' hk' hf
            have h1 := HD1.out.2 k' hk'
            have hf2 : Foot w.heap.size (.slice A2 R.length c2) R k' := by rw [HRL.out]; exact hf
            have := (HH.out.lt hf2).2; omega
          obtain ⟨k1, k2, k3, k4⟩ := h'.push (w1 := w3) (V' := .slice A' (k + 1) c') (by decide) (by decide) (by decide) HAP.out a hD' hfr (by rw [HRL.out, flat_append]; simpa [flat, cells5] using hown3) hgr
            (by rcases hat with h | h; exact .inl h; exact .inr ⟨_, h, by simp⟩) (fun k' hk' e => by have := HD1.out.2 k' hk'; omega)
          refine ⟨k1, k2, (HB1.out.alloc (by omega) _).trans (k4.below (by simp; omega) (fun x hx => ?_))⟩
          rcases hx with rfl | hx
          · exact Nat.le_refl _
          · exact (HH1.out.row.lt x hx).1
        have HMN : Hid ((R ++ [(a, Value.slice AD a.data.length cD)]).map Prod.fst = L.take (k + 1)) := by
          have hk' := List.getElem?_eq_some_iff.mp HA.out
          unfold Hid
          rw [List.map_append, HMAP.out, List.take_succ_eq_append_getElem hlt]
          simp [hk'.2]
        clear hown3 hg3 hat
        go_wp2_with fail
        go_roundw
        case rel => exact ⟨k + 1, _, _, by omega, by go_num, HR.out.1, HR.out.2.1, HMN.out, HR.out.2.2⟩
        case measure => simp [intOf]; omega
    · have : k = L.length := by omega
      subst this
      go_wp2_with fail
      go_ret
      refine ⟨_, rfl, ⟨V, R, HH.out, HAP.out, by rw [HMAP.out, List.take_length], H.out.good, fun x hx => HH.out.lt hx, fun _ h => h⟩, HB.out⟩
end Go.Proofs.Ytjmpnkhgligdlaa
