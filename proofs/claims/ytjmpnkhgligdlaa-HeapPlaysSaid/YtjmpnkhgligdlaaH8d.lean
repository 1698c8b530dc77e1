/- The document's heap: Put. -/
import Derived.Test.YtjmpnkhgligdlaaH8c
namespace Go.Proofs.Ytjmpnkhgligdlaa
open Go.RowKit On Hv Go.Sort
theorem Dw.get {w : World} {B : Nat} {D : Value} {xs : List Int} (h : Dw 5 w B D xs) {A : Option Addr} {n c k : Nat} (hD : D = .slice A n c) (hk : k < n) : ∃ g, A = some ⟨g, 0, none⟩ ∧ w.cell? ⟨g, k, none⟩ = some (.int .u8 (xs.getD k 0)) ∧ w.frozen? ⟨g, k, none⟩ = false ∧ dB D xs = some g ∧ g < w.heap.size ∧ B ≤ g := by
  have hn : xs.length = n := by obtain ⟨A', c', e, _⟩ := h.slice; rw [hD] at e; injection e with _ e2 _; exact e2.symm
  obtain ⟨g, c', e, h1, h2, h3⟩ := h.cell (i := k) (by omega)
  rw [hD] at e; injection e with e1 _ _
  have := h.lt h3
  exact ⟨g, e1, h1, h2, h3, this.2, this.1⟩
def PutPost (w : World) (B p : Nat) (sz : Int) (L : List Ar) (F : Nat → Prop) (e : Ending) (w' : World) : Prop := e = .returned (.tuple #[]) ∧ AtR w' B p sz L (More F w w') ∧ Only F w w'
set_option maxHeartbeats 2000000 in
set_option maxRecDepth 100000 in
theorem putR_c (w : World) (B B' p : Nat) (sz : Int) (L : List Ar) (F : Nat → Prop) (h : AtR w B p sz L F) (i j : Nat) (a : Ar) (ref at_ : Int) (D : Value) (bs : List Int) (hi : ref = i + 1) (hj : at_ = j) (ha : L[i]? = some a) (hD : Dw 5 w B' D bs) (hl : j + bs.length ≤ a.data.length) :
    Calls Try.prog 24 #[.pointer (some ⟨p, 0, none⟩), .int .i64 ref, .int .i64 at_, D] w (PutPost w B p sz (L.set i (a.with' (puts a.data j bs bs.length))) F) := by
  obtain ⟨i0, hi0, hz0, hz1, hz2⟩ := info_parts info_arr
  obtain ⟨j0, hj0, hy0, hy1, hy2⟩ := info_parts info_u8
  have HA := Lib.hid ha
  have HD := Lib.hid hD
  obtain ⟨AD, cD, rfl, _⟩ := hD.slice
  obtain ⟨q, c, R, h1, h2, h3, h4, h5, h6, h7, h8, h9, h10, h11⟩ := h.open
  have hlen := h5.len
  have hda : a.data.length ≤ 64 := h5.data a (List.mem_of_getElem? ha)
  have H1 := Lib.hid h1; have H2 := Lib.hid h2; have H3 := Lib.hid h3; have H6 := Lib.hid h6; have H7 := Lib.hid h7; have H4 := Lib.hid h4
  have hiL : i < L.length := (List.getElem?_eq_some_iff.mp ha).1
  obtain ⟨D0, hx0⟩ := map_get h3 ha
  have HX := Lib.hid hx0
  have HGD : Hid (Hv.Good sz (L.set i (a.with' (puts a.data j bs bs.length)))) := h5.set ha (.inr (by simp [Ar.with', puts_len])) (by simpa [Ar.with', puts_len] using hda) rfl
  have hc1 := h1.blk.cell 1
  have hf1 := h1.blk.frozen 1
  simp at hc1
  have d4 := h1.cell rfl hx0 (show 4 < 5 by omega)
  simp [cells5] at d4
  have hB : B ≤ w.heap.size := by have := h1.ge; omega
  have HSRC : Hid (Src w (some ⟨q, 0, none⟩) L.length 5 (flat R)) := by have := h1.row; rw [h4] at this; exact Src.own this (flat_one h1.dat)
  have hDa := h1.dat i _ hx0
  have HBA := Lib.hid hDa.byte
  obtain ⟨A0, cA, hD0, hcA, hsA⟩ := hDa.src
  simp only at hD0 hsA HBA
  rw [hD0] at d4
  have HCA := Lib.hid hcA
  have HSA : Hid (Src (w.alloc (.cells #[] 5)) A0 a.data.length 1 (a.data.map (Value.int .u8))) := Hv.Src.below hsA ((Below.refl _ _).alloc (Nat.le_refl _) _)
  have HO0 : Hid ((w.alloc (.cells #[] 5)).ownsRow w.heap.size 5 1 (.slice (some ⟨w.heap.size, 0, none⟩) 0 0) 0 []) := own_empty1 (Blk.new _ _ _) (Nat.le_refl _)
  have hn : (L.length : Int) ≤ 514 := by omega
  have hp : p < w.heap.size := h11
  have hq : q < w.heap.size := h10
  have hlb : bs.length ≤ 64 := by omega
  subst hi
  subst hj
  generalize hnb : bs.length = nb at *
  generalize hna : a.data.length = na at *
  have HNB := Lib.hid hnb; have HNA := Lib.hid hna
  clear h h1 h2 h3 h4 h5 h6 h7 h8 h9 h10 h11 ha hD hx0 hsA hcA hDa hD0 hnb hna
  have hii : ((i : Int) + 1 - 1).toNat = i := by omega
  go_enter Try.func24, Try.ntmps24
  go_wp2_with (at_builtin; refine wpList_append_at _ rfl (.tmp 11) (.tmp 20) _ rfl w.heap.size 5 j0 _ 1 1 Try.underlying29 hj0 hy0 hy1 hy2 rfl (by omega) _ 0 [] rfl HO0.out A0 na cA _ rfl HSA.out HCA.out (by unfold maxLen; omega) (by omega) (by simp) ?_)
  intro A1 c1 w1 hown1 hg1 hat1
  try simp only [Nat.zero_add, List.nil_append] at hown1
  have hD1 : Dw 5 w1 w.heap.size (.slice A1 na c1) a.data := by
    have := Dw.own hown1 HBA.out; exact this
  have hb1 : Below w.heap.size w w1 := Below.grown ((Below.refl _ _).alloc (Nat.le_refl _) _) hg1 (by simp) (by simp [Value.ownBlock])
  have HD1 := Lib.hid hD1
  have HB1 := Lib.hid hb1
  clear hown1 hg1 hat1 hD1 hb1 hc1 d4
  go_wp2_with fail
  go_loopw [9] (fun x wr => ∃ k : Nat, k ≤ nb ∧ x = .int .i64 k ∧ Dw 5 wr w.heap.size (.slice A1 na c1) (puts a.data j bs k) ∧ Below w.heap.size w wr) (fun x _ => nb - (intOf x).toNat)
  case atStart => exact ⟨0, Nat.zero_le _, rfl, HD1.out, HB1.out⟩
  case round =>
    obtain ⟨k, hk, rfl, hd, hb⟩ := hrel
    have HDD := Lib.hid hd
    have HBB := Lib.hid hb
    clear hd hb
    by_cases hlt : k < nb
    · obtain ⟨gb, rfl, cb, _, _, lb, _⟩ := Dw.get HD.out (k := k) rfl (by omega)
      obtain ⟨g1, rfl, cg, fg, dg, lg, bg⟩ := Dw.get HDD.out (k := j + k) rfl (by omega)
      rw [← HBB.out.cell (p := ⟨gb, k, none⟩) lb] at cb
      have hbr : 0 ≤ bs.getD k 0 ∧ bs.getD k 0 ≤ 255 := by
        have hkb : k < bs.length := by have := HNB.out; omega
        have := HD.out.byte (bs.getD k 0) (by rw [List.getD_eq_getElem?_getD, List.getElem?_eq_getElem hkb]; exact List.getElem_mem hkb)
        exact this
      have HDN : Hid (Dw 5 (wr.setCell ⟨g1, j + k, none⟩ (.int .u8 (bs.getD k 0))) w.heap.size (.slice (some ⟨g1, 0, none⟩) na c1) (puts a.data j bs (k + 1))) := HDD.out.put dg hbr
      have HBN : Hid (Below w.heap.size w (wr.setCell ⟨g1, j + k, none⟩ (.int .u8 (bs.getD k 0)))) := HBB.out.setCell (by simpa using bg) _
      have hjk : (j : Int) + k < (na : Int) := by omega
      generalize bs.getD k 0 = z at *
      generalize (puts a.data j bs k).getD (j + k) 0 = z0 at *
      clear lb lg bg dg
      go_wp2_with fail
      go_roundw
      case rel => exact ⟨k + 1, by omega, by go_num, HDN.out, HBN.out⟩
      case measure => simp [intOf]; omega
    · have : k = nb := by omega
      subst this
      have hc1 : wr.cell? ⟨p, 1, none⟩ = some (.slice (some ⟨q, 0, none⟩) L.length c) := by
        have := (HBB.out.cell (p := ⟨p, 1, none⟩) hp).trans (H1.out.blk.cell 1); simpa using this
      have hswr := HBB.out.size
      have hpw : p < wr.heap.size := by omega
      have HO1 : Hid ((wr.alloc (.cells #[] 37)).ownsRow B 37 5 (.slice (some ⟨wr.heap.size, 0, none⟩) 0 0) 0 []) := own_empty (Blk.new _ _ _) (by omega)
      have HS1 : Hid (Src (wr.alloc (.cells #[] 37)) (some ⟨q, 0, none⟩) L.length 5 (flat R)) := Hv.Src.below HSRC.out (HBB.out.alloc hswr _)
      go_wp2_with (at_builtin; refine wpList_append_at _ rfl (.tmp 37) (.tmp 41) _ rfl B 37 i0 _ 5 56 Try.underlying47 hi0 hz0 hz1 hz2 rfl (by omega) _ 0 [] rfl HO1.out (some ⟨q, 0, none⟩) L.length c (flat R) rfl HS1.out nofun (by unfold maxLen; omega) (by omega) (by simp; omega) ?_)
      intro A2 c2 w2 hown2 hg2 hat2
      try simp only [Nat.zero_add, List.nil_append] at hown2
      obtain ⟨g, rfl⟩ := own_some0 hown2 (by omega)
      have hb2 : Below wr.heap.size wr w2 := Below.grown ((Below.refl _ _).alloc (Nat.le_refl _) _) hg2 (by simp) (by simp [Value.ownBlock])
      have hgw : w.heap.size ≤ g := by
        have := ownblk_ge (n' := L.length) (c' := c2) (b := w.heap.size) hat2 (by simp [Value.ownBlock]; omega) (by first | omega | (simp; omega))
        exact this g rfl
      have hD2 : Dw 5 w2 w.heap.size (.slice A1 na c1) (puts a.data j bs k) := HDD.out.keep (S := fun _ => False) (Only.of_below hb2) (fun _ _ h => h)
      have hcell : w2.cell? ⟨g, i * 5 + 4, none⟩ = some D0 := by
        rw [hown2.cellAt (i * 5 + 4) (by omega), flat_at HX.out (show 4 < 5 by omega)]; rfl
      have hfz : w2.frozen? ⟨g, i * 5 + 4, none⟩ = false := hown2.frozenAt _
      have hpc : w2.cell? ⟨p, 1, none⟩ = some (.slice (some ⟨q, 0, none⟩) L.length c) := (hb2.cell (p := ⟨p, 1, none⟩) (by simp; omega)).trans hc1
      have hpf : w2.frozen? ⟨p, 1, none⟩ = false := (hb2.frozen (p := ⟨p, 1, none⟩) (by simp; omega)).trans ((HBB.out.frozen (p := ⟨p, 1, none⟩) hp).trans hf1)
      have hpg : ¬ p = g := by omega
      have hgp : ¬ g = p := by omega
      have HFIN := Lib.hid (rowset_fin (D := .slice A1 na c1) (by decide) (by decide) H1.out H2.out H3.out H6.out H7.out (HBB.out.trans (hb2.mono hswr)) hown2 hgw hD2 HA.out (by have := HGD.out; exact this))
      clear hown2 hg2 hat2 hD2 hb2 hc1 hf1
      go_wp2_with fail
      go_end0
      exact ⟨rfl, HFIN.out⟩
end Go.Proofs.Ytjmpnkhgligdlaa
