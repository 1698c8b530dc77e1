/- The document's heap: SetBuffer, Put. -/
import Derived.Test.YtjmpnkhgligdlaaH8b
namespace Go.Proofs.Ytjmpnkhgligdlaa
open Go.RowKit On Hv Go.Sort
/-- a new row with one array's bytes replaced, laid into the heap -/
theorem rowset_fin {u arrT ty : TypeId} {w w3 : World} {B p g c c1 i : Nat} {sz : Int} {L : List Ar} {F : Nat → Prop} {q : Nat} {R : List (Ar × Value)} {a : Ar} {D : Value} {xs : List Int} (hdt : u ≠ ty) (hda : u ≠ arrT)
    (h : HpV u arrT ty w B p sz (.slice (some ⟨q, 0, none⟩) L.length c) R) (ha : Apart R) (hm : R.map Prod.fst = L) (hF : ∀ k, Foot p (.slice (some ⟨q, 0, none⟩) L.length c) R k → F k) (hFb : ∀ k, F k → B ≤ k ∧ k < w.heap.size)
    (hb : Below w.heap.size w w3) (hrow : w3.ownsRow B arrT 5 (.slice (some ⟨g, 0, none⟩) L.length c1) L.length (flat R)) (hg : w.heap.size ≤ g) (hD : Dw u w3 w.heap.size D xs) (hx : L[i]? = some a) (hgd : Hv.Good sz (L.set i (a.with' xs))) :
    At u arrT ty ((w3.setCell ⟨g, i * 5 + 4, none⟩ D).setCell ⟨p, 1, none⟩ (.slice (some ⟨g, 0, none⟩) L.length c1)) B p sz (L.set i (a.with' xs)) (More F w ((w3.setCell ⟨g, i * 5 + 4, none⟩ D).setCell ⟨p, 1, none⟩ (.slice (some ⟨g, 0, none⟩) L.length c1))) ∧
      Only F w ((w3.setCell ⟨g, i * 5 + 4, none⟩ D).setCell ⟨p, 1, none⟩ (.slice (some ⟨g, 0, none⟩) L.length c1)) := by
  obtain ⟨D0, hx0⟩ := map_get hm hx
  have hl : R.length = L.length := by rw [← hm, List.length_map]
  have hBw : B ≤ w.heap.size := by have := hFb p (hF p (.inl rfl)); omega
  have hDg : ∀ k, dB D xs = some k → k ≠ g := by
    intro k hk e
    subst e
    obtain ⟨hn, hk⟩ := dB_some hk
    obtain ⟨A, cc, rfl, _, _, _, _, h5⟩ := hD
    obtain ⟨g', cur, rfl, _, hb', _⟩ := h5 hn
    simp [Value.ownBlock] at hk; subst hk
    obtain ⟨A', c', e', ⟨_, h0, _⟩ | ⟨q', cur', e2, _, hq', _⟩⟩ := own_slice hrow
    · have := (List.getElem?_eq_some_iff.mp hx).1; omega
    · injection e' with e' _ _; subst e'
      injection e2 with e2; injection e2 with e2; subst e2
      exact (hb'.ne hq' hda) rfl
  refine At.turned (R' := R.set i (a.with' xs, D)) hdt h ha hF hFb (Below.refl _ _) (hb.setCell (by simpa using hg) _) (Some'.set (fun j x k hx hk => (h.lt (.inr (.inr ⟨j, x, hx, hk⟩))).2) (fun k hk => (hD.lt hk).1)) (fun j x hj => ?_) (map_set' hm i _ D) hgd ?_ (fun k hk => by simp [Value.ownBlock] at hk; omega)
  · by_cases e : i = j
    · subst e
      rw [List.getElem?_set_self (by rw [hl]; exact (List.getElem?_eq_some_iff.mp hx).1)] at hj
      injection hj with hj; subst hj
      exact .inr ((hD.mono hBw).keep (only_set _ _ _ _) (fun k hk e => hDg k hk e))
    · rw [List.getElem?_set_ne e] at hj; exact .inl hj
  · have := (hrow.stored (i * 5 + 4) D).1
    rw [flat_set (x := (a, D0)) hx0 (a.with' xs) D rfl rfl rfl rfl] at this
    rw [List.length_set, hl]; exact this
theorem own_some0 {w : World} {base : Nat} {e : TypeId} {size : Nat} {A : Option Addr} {c n : Nat} {xs : List Value} (h : w.ownsRow base e size (.slice A n c) n xs) (hn : 0 < n) : ∃ g, A = some ⟨g, 0, none⟩ := by
  obtain ⟨A', c', e', ⟨rfl, h0, _⟩ | ⟨g, cur, rfl, _⟩⟩ := own_slice h
  · omega
  · injection e' with e' _ _; exact ⟨g, e'⟩
set_option maxHeartbeats 1000000 in
theorem setbufR_yes (w : World) (B B' p : Nat) (sz : Int) (L : List Ar) (F : Nat → Prop) (h : AtR w B p sz L F) (i : Nat) (a : Ar) (ref : Int) (D : Value) (xs : List Int) (hi : ref = i + 1) (hi2 : i < 2) (ha : L[i]? = some a) (hD : Dw 5 w B' D xs) (hl : xs.length ≤ 64) :
    Calls Try.prog 26 #[.pointer (some ⟨p, 0, none⟩), .int .i64 ref, D] w (StepPost (fun w L F => AtR w B p sz L F) (.returned (.bool true)) w (L.set i (a.with' xs)) F) := by
  obtain ⟨i0, hi0, hz0, hz1, hz2⟩ := info_parts info_arr
  obtain ⟨j0, hj0, hy0, hy1, hy2⟩ := info_parts info_u8
  have HA := Lib.hid ha
  have HBY := Lib.hid hD.byte
  obtain ⟨AD, cD, rfl, hcD, hsD⟩ := hD.src
  obtain ⟨q, c, R, h1, h2, h3, h4, h5, h6, h7, h8, h9, h10, h11⟩ := h.open
  have hlen := h5.len
  have htwo := h5.two
  have H1 := Lib.hid h1; have H2 := Lib.hid h2; have H3 := Lib.hid h3; have H6 := Lib.hid h6; have H7 := Lib.hid h7; have H4 := Lib.hid h4
  obtain ⟨D0, hx0⟩ := map_get h3 ha
  have HX := Lib.hid hx0
  have HGD : Hid (Hv.Good sz (L.set i (a.with' xs))) := h5.set ha (.inl hi2) hl rfl
  have hc1 := h1.blk.cell 1
  have hf1 := h1.blk.frozen 1
  simp at hc1
  have hB : B ≤ w.heap.size := by have := h1.ge; omega
  have HSRC : Hid (Src w (some ⟨q, 0, none⟩) L.length 5 (flat R)) := by have := h1.row; rw [h4] at this; exact Src.own this (flat_one h1.dat)
  have HSD := Lib.hid hsD; have HCD := Lib.hid hcD
  have HO0 : Hid ((w.alloc (.cells #[] 37)).ownsRow B 37 5 (.slice (some ⟨w.heap.size, 0, none⟩) 0 0) 0 []) := own_empty (Blk.new _ _ _) hB
  have HS0 : Hid (Src (w.alloc (.cells #[] 37)) (some ⟨q, 0, none⟩) L.length 5 (flat R)) := Hv.Src.below HSRC.out ((Below.refl _ _).alloc (Nat.le_refl _) _)
  have hn : (L.length : Int) ≤ 514 := by omega
  have hdl : (xs.length : Int) ≤ 64 := by omega
  have hdl' : xs.length ≤ 64 := hl
  have hp : p < w.heap.size := h11
  clear h h1 h2 h3 h4 h5 h6 h7 h8 h9 h10 h11 ha hD hx0 hl hsD hcD
  subst hi
  have hr1 : ¬ ((i : Int) + 1 < 1) := by omega
  have hr2 : ¬ (2 < (i : Int) + 1) := by omega
  go_enter Try.func26, Try.ntmps26
  go_wp2_with (at_builtin; refine wpList_append_at _ rfl (.tmp 19) (.tmp 23) _ rfl B 37 i0 _ 5 56 Try.underlying47 hi0 hz0 hz1 hz2 rfl (by omega) _ 0 [] rfl HO0.out (some ⟨q, 0, none⟩) L.length c (flat R) rfl HS0.out nofun (by unfold maxLen; omega) (by omega) (by simp; omega) ?_)
  intro A1 c1 w1 hown1 hg1 hat1
  try simp only [Nat.zero_add, List.nil_append] at hown1
  obtain ⟨g, rfl⟩ := own_some0 hown1 (by omega)
  have hb1 : Below w.heap.size w w1 := Below.grown ((Below.refl _ _).alloc (Nat.le_refl _) _) hg1 (by simp) (by simp [Value.ownBlock])
  have hgw : w.heap.size ≤ g := by
    have := ownblk_ge (n' := L.length) (c' := c1) (b := w.heap.size) hat1 (by simp [Value.ownBlock]) (by simp)
    exact this g rfl
  have hg1' : g < w1.heap.size := own_lt hown1 rfl
  have hs1 := hb1.size
  have HB1 := Lib.hid hb1
  have HW1 := Lib.hid hown1
  have HSD1 : Hid (Src (w1.alloc (.cells #[] 5)) AD xs.length 1 (xs.map (Value.int .u8))) := Hv.Src.below HSD.out (hb1.alloc hs1 _)
  have HO1 : Hid ((w1.alloc (.cells #[] 5)).ownsRow w.heap.size 5 1 (.slice (some ⟨w1.heap.size, 0, none⟩) 0 0) 0 []) := own_empty1 (Blk.new _ _ _) hs1
  clear hg1 hat1 hown1 hb1
  go_wp2_with (at_builtin; refine wpList_append_at _ rfl (.tmp 28) (.tmp 29) _ rfl w.heap.size 5 j0 _ 1 1 Try.underlying29 hj0 hy0 hy1 hy2 rfl (by omega) _ 0 [] rfl HO1.out AD xs.length cD _ rfl HSD1.out HCD.out (by unfold maxLen; omega) (by omega) (by simp; omega) ?_)
  intro A2 c2 w2 hown2 hg2 hat2
  try simp only [Nat.zero_add, List.nil_append] at hown2
  have hD2 : Dw 5 w2 w.heap.size (.slice A2 xs.length c2) xs := Dw.own hown2 HBY.out
  have hb2 : Below w1.heap.size w1 w2 := Below.grown ((Below.refl _ _).alloc (Nat.le_refl _) _) hg2 (by simp) (by simp [Value.ownBlock])
  have hrow2 : w2.ownsRow B 37 5 (.slice (some ⟨g, 0, none⟩) L.length c1) L.length (flat R) := own_only HW1.out (S := fun _ => False) (Only.of_below hb2) (fun _ _ h => h)
  have hcell : w2.cell? ⟨g, i * 5 + 4, none⟩ = some D0 := by
    rw [hrow2.cellAt (i * 5 + 4) (by omega), flat_at HX.out (show 4 < 5 by omega)]; rfl
  have hfz : w2.frozen? ⟨g, i * 5 + 4, none⟩ = false := hrow2.frozenAt _
  have hpc : w2.cell? ⟨p, 1, none⟩ = some (.slice (some ⟨q, 0, none⟩) L.length c) := (hb2.cell (p := ⟨p, 1, none⟩) (by simp; omega)).trans ((HB1.out.cell (p := ⟨p, 1, none⟩) hp).trans hc1)
  have hpf : w2.frozen? ⟨p, 1, none⟩ = false := (hb2.frozen (p := ⟨p, 1, none⟩) (by simp; omega)).trans ((HB1.out.frozen (p := ⟨p, 1, none⟩) hp).trans hf1)
  have hpg : ¬ p = g := by omega
  have hgp : ¬ g = p := by omega
  have HFIN := Lib.hid (rowset_fin (D := .slice A2 xs.length c2) (by decide) (by decide) H1.out H2.out H3.out H6.out H7.out (HB1.out.trans (hb2.mono hs1)) hrow2 hgw hD2 HA.out HGD.out)
  clear hown2 hg2 hat2 hD2 hb2 hrow2 hc1 hf1
  go_wp2_with fail
  go_ret
  exact ⟨rfl, HFIN.out⟩
theorem setbufR_no (w : World) (P : Value) (ref : Int) (A : Option Addr) (n c : Nat) (h : (ref < 1 ∨ 2 < ref) ∨ 64 < n) (hn : n ≤ 1000000) :
    Calls Try.prog 26 #[P, .int .i64 ref, .slice A n c] w fun e w' => e = .returned (.bool false) ∧ w = w' := by
  by_cases h1 : ref < 1
  · clear h
    go_enter Try.func26, Try.ntmps26
    go_wp2
    go_ret
    exact ⟨rfl, rfl⟩
  · by_cases h2 : 2 < ref
    · clear h
      go_enter Try.func26, Try.ntmps26
      go_wp2
      go_ret
      exact ⟨rfl, rfl⟩
    · have h64 : (64 : Int) < (n : Int) := by omega
      clear h
      go_enter Try.func26, Try.ntmps26
      go_wp2
      go_ret
      exact ⟨rfl, rfl⟩
end Go.Proofs.Ytjmpnkhgligdlaa
