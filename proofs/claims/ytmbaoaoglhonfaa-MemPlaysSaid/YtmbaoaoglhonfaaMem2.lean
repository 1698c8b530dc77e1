/- Package mem: Word, Half, Byte, SetWord, SetByte, Load. -/
import Derived.Test.YtmbaoaoglhonfaaMem
namespace Go.Proofs.Ytmbaoaoglhonfaa
open Go.RowKit On
theorem mt : (MT : Int) = 262144 := rfl
theorem word_yes (w : World) (p g : Nat) (f : Nat → Int) (a : Int) (h : Mm w 68 p g f) (h0 : 0 ≤ a) (h1 : a % 4 = 0) (h2 : a < 262144) :
    Calls Try.prog 25 #[.pointer (some ⟨p, 0, none⟩), .int .i64 a] w fun e w' => e = .returned (.tuple #[.int .u32 (getB f a.toNat 4), .bool true]) ∧ w = w' := by
  have H := Lib.hid h; clear h
  have hz : (a % 4 != 0) = false := by rw [h1]; rfl
  have hg : ¬ 262144 ≤ a := by omega
  have hb : a + ((4 : Nat) : Int) ≤ (MT : Int) := by rw [mt]; omega
  have HB := Lib.hid hb; clear hb h1
  have hgr := getB_range H.out.2.range a.toNat 4
  have hg1 : getB f a.toNat 4 < 4294967296 := hgr.2
  have hg0 := hgr.1
  clear hgr
  go_enter Try.func25, Try.ntmps25
  go_wp2_with (go_at_call 38; (refine (get_c w p g f a 4 H.out (by omega) h0 HB.out).mono ?_); rintro e w' ⟨rfl, rfl⟩)
  go_ret2
  exact ⟨rfl, rfl⟩
theorem word_no (w : World) (P : Value) (a : Int) (h : a < 0 ∨ a % 4 ≠ 0 ∨ 262144 ≤ a) :
    Calls Try.prog 25 #[P, .int .i64 a] w fun e w' => e = .returned (.tuple #[.int .u32 0, .bool false]) ∧ w = w' := by
  by_cases h0 : a < 0
  · clear h
    go_enter Try.func25, Try.ntmps25
    go_wp2
    go_ret2
    exact ⟨rfl, rfl⟩
  · by_cases h1 : a % 4 = 0
    · have hz : (a % 4 != 0) = false := by rw [h1]; rfl
      have hg : 262144 ≤ a := by omega
      clear h h1
      have h0 : 0 ≤ a := by omega
      go_enter Try.func25, Try.ntmps25
      go_wp2
      go_ret2
      exact ⟨rfl, rfl⟩
    · have hz : (a % 4 != 0) = true := by rw [bne_iff_ne]; exact h1
      clear h h1
      have h0 : 0 ≤ a := by omega
      go_enter Try.func25, Try.ntmps25
      go_wp2
      go_ret2
      exact ⟨rfl, rfl⟩
theorem half_yes (w : World) (p g : Nat) (f : Nat → Int) (a : Int) (h : Mm w 68 p g f) (h0 : 0 ≤ a) (h1 : a % 2 = 0) (h2 : a < 131072) :
    Calls Try.prog 27 #[.pointer (some ⟨p, 0, none⟩), .int .i64 a] w fun e w' => e = .returned (.tuple #[.int .u16 (getB f a.toNat 2), .bool true]) ∧ w = w' := by
  have H := Lib.hid h; clear h
  have hz : (a % 2 != 0) = false := by rw [h1]; rfl
  have hg : ¬ 131072 ≤ a := by omega
  have hb : a + ((2 : Nat) : Int) ≤ (MT : Int) := by rw [mt]; omega
  have HB := Lib.hid hb; clear hb h1
  have hgr := getB_range H.out.2.range a.toNat 2
  have hg1 : getB f a.toNat 2 < 65536 := hgr.2
  have hg0 := hgr.1
  clear hgr
  go_enter Try.func27, Try.ntmps27
  go_wp2_with (go_at_call 38; (refine (get_c w p g f a 2 H.out (by omega) h0 HB.out).mono ?_); rintro e w' ⟨rfl, rfl⟩)
  go_ret2
  exact ⟨rfl, rfl⟩
theorem half_no (w : World) (P : Value) (a : Int) (h : a < 0 ∨ a % 2 ≠ 0 ∨ 131072 ≤ a) :
    Calls Try.prog 27 #[P, .int .i64 a] w fun e w' => e = .returned (.tuple #[.int .u16 0, .bool false]) ∧ w = w' := by
  by_cases h0 : a < 0
  · clear h
    go_enter Try.func27, Try.ntmps27
    go_wp2
    go_ret2
    exact ⟨rfl, rfl⟩
  · by_cases h1 : a % 2 = 0
    · have hz : (a % 2 != 0) = false := by rw [h1]; rfl
      have hg : 131072 ≤ a := by omega
      clear h h1
      have h0 : 0 ≤ a := by omega
      go_enter Try.func27, Try.ntmps27
      go_wp2
      go_ret2
      exact ⟨rfl, rfl⟩
    · have hz : (a % 2 != 0) = true := by rw [bne_iff_ne]; exact h1
      clear h h1
      have h0 : 0 ≤ a := by omega
      go_enter Try.func27, Try.ntmps27
      go_wp2
      go_ret2
      exact ⟨rfl, rfl⟩
theorem byte_yes (w : World) (p g : Nat) (f : Nat → Int) (a : Int) (h : Mm w 68 p g f) (h0 : 0 ≤ a) (h2 : a < 262144) :
    Calls Try.prog 23 #[.pointer (some ⟨p, 0, none⟩), .int .i64 a] w fun e w' => e = .returned (.tuple #[.int .u8 (f a.toNat), .bool true]) ∧ w = w' := by
  obtain ⟨a, rfl⟩ := Int.eq_ofNat_of_zero_le h0
  rw [Int.toNat_natCast]
  have hc := h.1.cell 0
  simp at hc
  have hd := h.2.cell (i := a) (by have := mt; omega)
  have hg : ¬ 262144 ≤ (a : Int) := by omega
  have hn : ¬ (a : Int) < 0 := by omega
  have hm : (a : Int) < (MT : Int) := by rw [mt]; omega
  clear h h2 h0
  go_enter Try.func23, Try.ntmps23
  go_wp2
  go_ret2
  exact ⟨rfl, rfl⟩
theorem byte_no (w : World) (P : Value) (a : Int) (h : a < 0 ∨ 262144 ≤ a) :
    Calls Try.prog 23 #[P, .int .i64 a] w fun e w' => e = .returned (.tuple #[.int .u8 0, .bool false]) ∧ w = w' := by
  by_cases h0 : a < 0
  · clear h
    go_enter Try.func23, Try.ntmps23
    go_wp2
    go_ret2
    exact ⟨rfl, rfl⟩
  · have hg : 262144 ≤ a := by omega
    clear h
    go_enter Try.func23, Try.ntmps23
    go_wp2
    go_ret2
    exact ⟨rfl, rfl⟩
theorem setword_yes (w : World) (p g : Nat) (f : Nat → Int) (a v : Int) (h : Mm w 68 p g f) (h0 : 131072 ≤ a) (h1 : a % 4 = 0) (h2 : a < 262144) :
    Calls Try.prog 22 #[.pointer (some ⟨p, 0, none⟩), .int .i64 a, .int .u32 v] w fun e w' => e = .returned (.bool true) ∧ Mm w' 68 p g (setB f a.toNat 4 v) ∧ Only (fun k => k = g) w w' := by
  have H := Lib.hid h; clear h
  have hz : (a % 4 != 0) = false := by rw [h1]; rfl
  have hg : ¬ 262144 ≤ a := by omega
  have hl : ¬ a < 131072 := by omega
  have hp : 0 ≤ a := by omega
  have hb : a + ((4 : Nat) : Int) ≤ (MT : Int) := by rw [mt]; omega
  have HB := Lib.hid hb; clear hb h1
  go_enter Try.func22, Try.ntmps22
  go_wp2_with fail
  refine (put_c w p g f a 4 v H.out (by omega) hp HB.out).mono ?_
  rintro e w' ⟨rfl, hm, hO⟩
  have HM := Lib.hid hm; have HO := Lib.hid hO; clear hm hO
  go_wp2_with fail
  go_ret
  exact ⟨rfl, HM.out, HO.out⟩
theorem setword_no (w : World) (P : Value) (a v : Int) (h : a < 131072 ∨ a % 4 ≠ 0 ∨ 262144 ≤ a) :
    Calls Try.prog 22 #[P, .int .i64 a, .int .u32 v] w fun e w' => e = .returned (.bool false) ∧ w = w' := by
  by_cases h0 : a < 131072
  · clear h
    go_enter Try.func22, Try.ntmps22
    go_wp2
    go_ret
    exact ⟨rfl, rfl⟩
  · have hp : 0 ≤ a := by omega
    by_cases h1 : a % 4 = 0
    · have hz : (a % 4 != 0) = false := by rw [h1]; rfl
      have hg : 262144 ≤ a := by omega
      clear h h1
      go_enter Try.func22, Try.ntmps22
      go_wp2
      go_ret
      exact ⟨rfl, rfl⟩
    · have hz : (a % 4 != 0) = true := by rw [bne_iff_ne]; exact h1
      clear h h1
      go_enter Try.func22, Try.ntmps22
      go_wp2
      go_ret
      exact ⟨rfl, rfl⟩
theorem setbyte_yes (w : World) (p g : Nat) (f : Nat → Int) (a v : Int) (h : Mm w 68 p g f) (h0 : 131072 ≤ a) (h2 : a < 262144) (hv : 0 ≤ v ∧ v ≤ 255) :
    Calls Try.prog 24 #[.pointer (some ⟨p, 0, none⟩), .int .i64 a, .int .u8 v] w fun e w' => e = .returned (.bool true) ∧ Mm w' 68 p g (upd f a.toNat v) ∧ Only (fun k => k = g) w w' := by
  obtain ⟨a, rfl⟩ := Int.eq_ofNat_of_zero_le (show 0 ≤ a by omega)
  rw [Int.toNat_natCast]
  have hpg : p ≠ g := by obtain ⟨h1, cs, h2, _⟩ := h; exact h1.ne h2 (by decide)
  have HPG := Lib.hid hpg; clear hpg
  have hc := h.1.cell 0
  simp at hc
  have hd := h.2.cell (i := a) (by have := mt; omega)
  have hf := h.2.frozen a
  have hg : ¬ 262144 ≤ (a : Int) := by omega
  have hn : ¬ (a : Int) < 131072 := by omega
  have hm : (a : Int) < (MT : Int) := by rw [mt]; omega
  have H := Lib.hid h; clear h h0 h2
  have HV := Lib.hid hv; clear hv
  generalize f a = x at *
  go_enter Try.func24, Try.ntmps24
  go_wp2
  go_ret
  exact ⟨rfl, ⟨H.out.1.far (p := ⟨g, a, none⟩) HPG.out _, H.out.2.set a HV.out⟩, Only.setCell (S := fun k => k = g) (Only.refl _ w) (p := ⟨g, a, none⟩) (.inl rfl) _⟩
theorem setbyte_no (w : World) (P : Value) (a v : Int) (h : a < 131072 ∨ 262144 ≤ a) :
    Calls Try.prog 24 #[P, .int .i64 a, .int .u8 v] w fun e w' => e = .returned (.bool false) ∧ w = w' := by
  by_cases h0 : a < 131072
  · clear h
    go_enter Try.func24, Try.ntmps24
    go_wp2
    go_ret
    exact ⟨rfl, rfl⟩
  · have hg : 262144 ≤ a := by omega
    clear h
    go_enter Try.func24, Try.ntmps24
    go_wp2
    go_ret
    exact ⟨rfl, rfl⟩
end Go.Proofs.Ytmbaoaoglhonfaa
