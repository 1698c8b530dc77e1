/- The walk of HeapKnown. -/
import Derived.Test.YtjmpnkhgligdlaaH8f
import Derived.Lib.SlBytesConst
namespace Go.Proofs.Ytjmpnkhgligdlaa
open Go.RowKit On Hv Go.Sort
def a3 : Ar := fresh 1 4 2 true 3
def a3' : Ar := a3.with' (a3.data.set 2 9)
def a4 : Ar := fresh 1 4 1 false 2
def a4' : Ar := a4.with' (a4.data.set 0 8)
def b0' : Ar := buf0.with' [104, 105]
def M2 : List Ar := [buf0, buf1, a3, a4]
def M3 : List Ar := [buf0, buf1, a3', a4]
def M4 : List Ar := [buf0, buf1, a3', a4']
def M5 : List Ar := [b0', buf1, a3', a4']
def M6 : List Ar := [b0', buf1, zeros a3', a4']
def M7 : List Ar := [b0', buf1, zeros (zeros a3'), zeros a4']
theorem M_f1 : Fits 200 [buf0, buf1] 4 2 3 := by unfold Fits used; simp [sizes]
theorem M_f2 : Fits 200 [buf0, buf1, a3] 4 1 2 := by unfold Fits used; simp [sizes, a3, fresh]
theorem M_e1 : allocL 200 [buf0, buf1] 1 4 2 true 3 = [buf0, buf1, a3] := by unfold allocL; rw [if_pos M_f1]; rfl
theorem M_n1 : allocN 200 [buf0, buf1] 4 2 3 = 3 := by unfold allocN; rw [if_pos M_f1]; rfl
theorem M_b1 : allocB 200 [buf0, buf1] 4 2 3 = true := by unfold allocB; simp [M_f1]
theorem M_e2 : allocL 200 [buf0, buf1, a3] 1 4 1 false 2 = M2 := by unfold allocL; rw [if_pos M_f2]; rfl
theorem M_n2 : allocN 200 [buf0, buf1, a3] 4 1 2 = 4 := by unfold allocN; rw [if_pos M_f2]; rfl
theorem M_b2 : allocB 200 [buf0, buf1, a3] 4 1 2 = true := by unfold allocB; simp [M_f2]
theorem M_c1 : M5.map (clr1 2 1) = M6 := by simp [M5, M6, clr1, goneB, b0', buf0, buf1, a3', a3, a4', a4, fresh, Ar.with']
theorem M_g1 : goneN 2 1 M5 = 1 := by simp [M5, goneN, goneB, b0', buf0, buf1, a3', a3, a4', a4, fresh, Ar.with']
theorem M_c2 : M6.map (clr1 1 0) = M7 := by simp [M6, M7, clr1, goneB, b0', buf0, buf1, a3', a3, a4', a4, fresh, Ar.with', zeros]
theorem M_g2 : goneN 1 0 M6 = 2 := by simp [M6, goneN, goneB, b0', buf0, buf1, a3', a3, a4', a4, fresh, Ar.with', zeros]
theorem M_c3 : M7.map (clr1 0 1) = M7 := by simp [M7, clr1, goneB, zeros, Ar.with']
theorem M_g3 : goneN 0 1 M7 = 0 := by simp [M7, goneN, goneB, zeros, Ar.with']
theorem M_u : used M7 = 21 := by simp [used, sizes, M7, zeros, Ar.with', a3', a3, a4', a4, fresh]
theorem rd_hi (w : World) : Rd (w.alloc (.cells #[.int .u8 104, .int .u8 105] 5 (2, 3))) (.slice (some ⟨w.heap.size, 0, none⟩) 2 2) [104, 105] := by
  have := Src.block w 5 2 [.int .u8 104, .int .u8 105] rfl (by simp [Value.oneCell']) (2, 3)
  exact ⟨_, 2, rfl, nofun, ⟨rfl, nofun, this.cell, this.one⟩, by simp⟩
structure KS (w w' : World) (p : Nat) (L : List Ar) (F : Nat → Prop) (X : Nat) (t : TypeId) (cs : Array Value) : Prop where
  at_ : AtI w' w.heap.size p 200 L F
  keep : Below w.heap.size w w'
  blk : Blk w' X t cs
  nf : ¬ F X
section
variable {w w1 w2 : World} {p X : Nat} {L L' : List Ar} {F : Nat → Prop} {t : TypeId} {cs : Array Value}
theorem KS.step (h : KS w w1 p L F X t cs) (ha : AtI w2 w.heap.size p 200 L' (More F w1 w2)) (ho : Only F w1 w2) : KS w w2 p L' (More F w1 w2) X t cs :=
  ⟨ha, h.keep.trans (ho.below h.keep.size (fun _ hk => (h.at_.lt hk).1)), ho.kept h.blk h.nf, by
    rintro (hk | hk)
    · exact h.nf hk
    · have := h.blk.lt; omega⟩
theorem KS.put (h : KS w w1 p L F X t cs) (ha : AtI w2 w.heap.size p 200 L' F) (ho : Only F w1 w2) : KS w w2 p L' F X t cs :=
  ⟨ha, h.keep.trans (ho.below h.keep.size (fun _ hk => (h.at_.lt hk).1)), ho.kept h.blk h.nf, h.nf⟩
theorem KS.below (h : KS w w1 p L F X t cs) (hb : Below w1.heap.size w1 w2) : KS w w2 p L F X t cs :=
  ⟨h.at_.below hb, h.keep.trans (hb.mono h.keep.size), (Only.of_below (S := F) hb).kept h.blk h.nf, h.nf⟩
end
set_option maxHeartbeats 8000000 in
set_option maxRecDepth 100000 in
theorem heapKnown_walk (w : World) :
    Calls Try.prog 4 #[] w fun e w' => e = .returned (.bool true) ∧ Below w.heap.size w w' := by
  have n1 := eql_heap
  have kc := fun (w : World) (C : Array Value) (n c : Nat) => Lib.run_convert_bytes_const (P := Try.prog) w 29 5 C n c Try.underlying29 Try.underlying5
  have hmk : ∀ w : World, (Instr.makeSlice 29 (.int .i64 65) (.int .i64 65)).run Try.prog w = .ok (.slice (some ⟨w.heap.size, 0, none⟩) 65 65) (w.alloc (.cells (madeCells #[.int .u8 0] 65) 5)) := by
    have := make_bytes 65 (by omega)
    exact this
  go_enter Try.func4, Try.ntmps4
  go_wp2_with fail
  refine (newI_no w 63 (by omega)).mono ?_
  rintro e w' ⟨rfl, rfl⟩
  go_wp2_with fail
  refine (newI_no w 4097 (by omega)).mono ?_
  rintro e w' ⟨rfl, rfl⟩
  go_wp2_with fail
  refine (newI_c w 200 (by omega) (by omega)).mono ?_
  rintro e w1 ⟨p, F, rfl, hi, hb1⟩
  have HI1 : Hid (AtI w1 w.heap.size p 200 [buf0, buf1] F) := hi
  have HB1 := Lib.hid hb1
  clear hi hb1
  go_wp2_with fail
  refine (known8_c w1).mono ?_
  rintro e w2 ⟨rfl, hb⟩
  have HB2 := Lib.hid (HB1.out.trans (hb.mono HB1.out.size))
  have HI2 : Hid (AtI w2 w.heap.size p 200 [buf0, buf1] F) := HI1.out.below hb
  clear hb HB1 HI1
  go_wp2_with fail
  refine (arrayI_yes w2 w.heap.size p 200 [buf0, buf1] F HI2.out 1 buf1 2 rfl rfl).mono ?_
  rintro e w3 ⟨D, rfl, hd, hb⟩
  obtain ⟨AD, cD, hDe, _⟩ := hd.slice
  have hDe : D = .slice AD 0 cD := hDe
  subst hDe
  have HS : Hid (KS w (w3.alloc (.cells #[.int .i64 buf1.owner, .int .i64 buf1.label, .int .i64 buf1.life, .bool buf1.share, .slice AD 0 cD] 37)) p [buf0, buf1] F w3.heap.size 37 #[.int .i64 (-1), .int .i64 4, .int .i64 0, .bool false, .slice AD 0 cD]) :=
    Lib.hid ⟨(HI2.out.below hb).below ((Below.refl _ _).alloc (Nat.le_refl _) _), (HB2.out.trans (hb.mono HB2.out.size)).alloc (by have := HB2.out.size; have := hb.size; omega) _, Blk.new _ _ _, fun hf => by have := (HI2.out.lt hf).2; have := hb.size; omega⟩
  clear hd hb HB2 HI2
  go_wp2_with fail
  refine (allocI_yes _ w.heap.size p 200 [buf0, buf1] F 1 4 2 3 true HS.out.at_ M_f1).mono ?_
  rintro e w4 ⟨rfl, ha, ho⟩
  have ha : AtI w4 w.heap.size p 200 [buf0, buf1, a3] _ := ha
  have HS := Lib.hid (HS.out.step ha ho)
  clear ha ho
  go_wp2_with fail
  refine (allocI_yes _ w.heap.size p 200 [buf0, buf1, a3] _ 1 4 1 2 false HS.out.at_ M_f2).mono ?_
  rintro e w5 ⟨rfl, ha, ho⟩
  have ha : AtI w5 w.heap.size p 200 M2 _ := ha
  have HS := Lib.hid (HS.out.step ha ho)
  clear ha ho
  go_wp2_with fail
  refine (put_yes _ w.heap.size p 200 M2 _ 2 2 a3 _ _ 9 HS.out.at_ rfl (by rfl) (by rfl) (by decide) (by omega)).mono ?_
  rintro e w6 ⟨rfl, ha, ho⟩
  have ha : AtI w6 w.heap.size p 200 M3 _ := ha
  have HS := Lib.hid (HS.out.put ha ho)
  clear ha ho
  go_wp2_with fail
  refine (putI_out _ w.heap.size p 200 M3 _ HS.out.at_ 2 a3' _ _ 9 (by rfl) rfl (by decide)).mono ?_
  rintro e w' ⟨rfl, rfl⟩
  go_wp2_with fail
  refine (put_yes _ w.heap.size p 200 M3 _ 3 0 a4 _ _ 8 HS.out.at_ rfl (by rfl) (by rfl) (by decide) (by omega)).mono ?_
  rintro e w7 ⟨rfl, ha, ho⟩
  have ha : AtI w7 w.heap.size p 200 M4 _ := ha
  have HS := Lib.hid (HS.out.put ha ho)
  clear ha ho
  go_wp2_with fail
  refine (getI_yes _ w.heap.size p 200 M4 _ HS.out.at_ 2 2 a3' _ _ (by rfl) rfl (by rfl) (by decide)).mono ?_
  rintro e w' ⟨he, rfl⟩
  have he : e = .returned (.tuple #[.int .u8 9, .bool true]) := he
  subst he
  go_wp2_with fail
  have HS := Lib.hid (HS.out.below ((Below.refl _ _).alloc (o := .cells #[.int .u8 104, .int .u8 105] 5 (2, 3)) (Nat.le_refl _)))
  refine (setbufI_yes _ w.heap.size p 200 M4 _ HS.out.at_ 0 buf0 _ _ [104, 105] (by rfl) (by omega) rfl (rd_hi _) (by decide)).mono ?_
  rintro e w8 ⟨rfl, ha, ho⟩
  have ha : AtI w8 w.heap.size p 200 M5 _ := ha
  have HS := Lib.hid (HS.out.step ha ho)
  clear ha ho
  go_wp2_with fail
  refine (setbufI_no _ _ _ _ _ _ (by omega) (by omega)).mono ?_
  rintro e w' ⟨rfl, rfl⟩
  go_wp2_with fail
  have HS := Lib.hid (HS.out.below ((Below.refl _ _).alloc (o := .cells (madeCells #[.int .u8 0] 65) 5) (Nat.le_refl _)))
  refine (setbufI_no _ _ _ _ _ _ (by omega) (by omega)).mono ?_
  rintro e w' ⟨rfl, rfl⟩
  go_wp2_with fail
  refine (clearI_c _ w.heap.size p 200 M5 _ 2 1 HS.out.at_).mono ?_
  rintro e w9 ⟨rfl, ha, ho⟩
  rw [M_c1] at ha
  rw [M_g1]
  have HS := Lib.hid (HS.out.step ha ho)
  clear ha ho
  go_wp2_with fail
  refine (getI_yes _ w.heap.size p 200 M6 _ HS.out.at_ 2 2 (zeros a3') _ _ (by rfl) rfl (by rfl) (by decide)).mono ?_
  rintro e w' ⟨he, rfl⟩
  have he : e = .returned (.tuple #[.int .u8 0, .bool true]) := he
  subst he
  go_wp2_with fail
  refine (getI_yes _ w.heap.size p 200 M6 _ HS.out.at_ 3 0 a4' _ _ (by rfl) rfl (by rfl) (by decide)).mono ?_
  rintro e w' ⟨he, rfl⟩
  have he : e = .returned (.tuple #[.int .u8 8, .bool true]) := he
  subst he
  go_wp2_with fail
  refine (clearI_c _ w.heap.size p 200 M6 _ 1 0 HS.out.at_).mono ?_
  rintro e w10 ⟨rfl, ha, ho⟩
  rw [M_c2] at ha
  rw [M_g2]
  have HS := Lib.hid (HS.out.step ha ho)
  clear ha ho
  have c0 := HS.out.blk.cell 0
  have c1 := HS.out.blk.cell 1
  simp at c0 c1
  go_wp2_with fail
  refine (clearI_c _ w.heap.size p 200 M7 _ 0 1 HS.out.at_).mono ?_
  rintro e w11 ⟨rfl, ha, ho⟩
  rw [M_c3] at ha
  rw [M_g3]
  have HS := Lib.hid (HS.out.step ha ho)
  clear ha ho
  go_wp2_with fail
  refine (usedI_c _ w.heap.size p 200 M7 _ HS.out.at_).mono ?_
  rintro e w12 ⟨rfl, hb⟩
  rw [M_u]
  have HS := Lib.hid (HS.out.below hb)
  clear hb
  go_wp2_with fail
  go_ret
  exact ⟨rfl, HS.out.keep⟩
theorem heapKnown_top (w : World) : Calls Try.prog 4 #[] w fun e w' => e = .returned (.bool true) ∧ Below w.heap.size w w' := heapKnown_walk w
end Go.Proofs.Ytjmpnkhgligdlaa
