/- The document's memory (taciturnref14): NewMemory, Word, Half, Byte, SetWord, SetByte, Load. -/
import Derived.Test.YtmbaoaoglhonfaaMem3
import Derived.Deep.QuietTactic
import Derived.BigQuiet
namespace Go.Proofs.Ytmbaoaoglhonfaa
open Go.RowKit On
theorem rNew_c (w : World) : Calls Try.prog 28 #[] w fun e w' => ∃ p g, e = .returned (.pointer (some ⟨p, 0, none⟩)) ∧ Mm w' 72 p g (fun _ => 0) ∧ w.heap.size ≤ p ∧ w.heap.size ≤ g ∧ Below w.heap.size w w' := by
  have hmk := make_mem
  go_enter Try.func28, Try.ntmps28
  go_wp2
  go_ret
  refine ⟨_, _, rfl, ⟨?_, ?_⟩, by omega, Nat.le_refl _, ((Below.refl _ _).alloc (Nat.le_refl _) _).alloc (by simp) _⟩
  · have := Blk.new (w.alloc (.cells (madeCells #[.int .u8 0] MT) 5)) 72 #[.slice (some ⟨w.heap.size, 0, none⟩) MT MT]
    rwa [World.size_alloc] at this
  · exact (Bytes.made w).only (S := fun _ => False) ((Only.refl _ _).alloc _) (fun h => h)
theorem rword_yes (w : World) (p g : Nat) (f : Nat → Int) (a : Int) (h : Mm w 72 p g f) (h0 : 0 ≤ a) (h1 : a % 4 = 0) (h2 : a < 262144) :
    Calls Try.prog 33 #[.pointer (some ⟨p, 0, none⟩), .int .i64 a] w fun e w' => e = .returned (.tuple #[.int .u32 (getB f a.toNat 4), .bool true]) ∧ ∃ q, w' = w.drewN q := by
  obtain ⟨a, rfl⟩ := Int.eq_ofNat_of_zero_le h0
  rw [Int.toNat_natCast]
  have hm := mt
  have hc := h.1.cell 0
  simp at hc
  have d0 := h.2.cell (i := a) (by omega)
  have d1 := h.2.cell (i := a + 1) (by omega)
  have d2 := h.2.cell (i := a + 2) (by omega)
  have d3 := h.2.cell (i := a + 3) (by omega)
  have r0 := h.2.range a
  have r1 := h.2.range (a + 1)
  have r2 := h.2.range (a + 2)
  have r3 := h.2.range (a + 3)
  have HG : Hid (getB f a 4 = f a + f (a + 1) * 256 + f (a + 2) * 65536 + f (a + 3) * 16777216) := by unfold Hid getB getB getB getB getB; simp
  rw [HG.out]
  clear HG
  generalize f a = x0 at *
  generalize f (a + 1) = x1 at *
  generalize f (a + 2) = x2 at *
  generalize f (a + 3) = x3 at *
  have hz : ((a : Int) % 4 != 0) = false := by rw [h1]; rfl
  have hg : ¬ 262144 ≤ (a : Int) := by omega
  have hm3 : (a : Int) + 3 < (MT : Int) := by omega
  have hneg : ¬ (a : Int) < 0 := by omega
  have hmb : (MT : Int) ≤ 1000000 := by omega
  clear hm h1 h2 h h0
  go_enter Try.func33, Try.ntmps33
  go_wp2_with fail
  go_quiet (fail)
  go_wp2
  go_ret2
  exact ⟨rfl, nq, rfl⟩
theorem rword_no (w : World) (P : Value) (a : Int) (h : a < 0 ∨ a % 4 ≠ 0 ∨ 262144 ≤ a) :
    Calls Try.prog 33 #[P, .int .i64 a] w fun e w' => e = .returned (.tuple #[.int .u32 0, .bool false]) ∧ w = w' := by
  by_cases h0 : a < 0
  · clear h
    go_enter Try.func33, Try.ntmps33
    go_wp2
    go_ret2
    exact ⟨rfl, rfl⟩
  · by_cases h1 : a % 4 = 0
    · have hz : (a % 4 != 0) = false := by rw [h1]; rfl
      have hg : 262144 ≤ a := by omega
      clear h h1
      have h0 : 0 ≤ a := by omega
      go_enter Try.func33, Try.ntmps33
      go_wp2
      go_ret2
      exact ⟨rfl, rfl⟩
    · have hz : (a % 4 != 0) = true := by rw [bne_iff_ne]; exact h1
      clear h h1
      have h0 : 0 ≤ a := by omega
      go_enter Try.func33, Try.ntmps33
      go_wp2
      go_ret2
      exact ⟨rfl, rfl⟩
theorem rhalf_no (w : World) (P : Value) (a : Int) (h : a < 0 ∨ a % 2 ≠ 0 ∨ 131072 ≤ a) :
    Calls Try.prog 35 #[P, .int .i64 a] w fun e w' => e = .returned (.tuple #[.int .u16 0, .bool false]) ∧ w = w' := by
  by_cases h0 : a < 0
  · clear h
    go_enter Try.func35, Try.ntmps35
    go_wp2
    go_ret2
    exact ⟨rfl, rfl⟩
  · by_cases h1 : a % 2 = 0
    · have hz : (a % 2 != 0) = false := by rw [h1]; rfl
      have hg : 131072 ≤ a := by omega
      clear h h1
      have h0 : 0 ≤ a := by omega
      go_enter Try.func35, Try.ntmps35
      go_wp2
      go_ret2
      exact ⟨rfl, rfl⟩
    · have hz : (a % 2 != 0) = true := by rw [bne_iff_ne]; exact h1
      clear h h1
      have h0 : 0 ≤ a := by omega
      go_enter Try.func35, Try.ntmps35
      go_wp2
      go_ret2
      exact ⟨rfl, rfl⟩
theorem rbyte_yes (w : World) (p g : Nat) (f : Nat → Int) (a : Int) (h : Mm w 72 p g f) (h0 : 0 ≤ a) (h2 : a < 262144) :
    Calls Try.prog 34 #[.pointer (some ⟨p, 0, none⟩), .int .i64 a] w fun e w' => e = .returned (.tuple #[.int .u8 (f a.toNat), .bool true]) ∧ w = w' := by
  obtain ⟨a, rfl⟩ := Int.eq_ofNat_of_zero_le h0
  rw [Int.toNat_natCast]
  have hc := h.1.cell 0
  simp at hc
  have hd := h.2.cell (i := a) (by have := mt; omega)
  have hg : ¬ 262144 ≤ (a : Int) := by omega
  have hn : ¬ (a : Int) < 0 := by omega
  have hm : (a : Int) < (MT : Int) := by rw [mt]; omega
  clear h h2 h0
  go_enter Try.func34, Try.ntmps34
  go_wp2
  go_ret2
  exact ⟨rfl, rfl⟩
theorem rbyte_no (w : World) (P : Value) (a : Int) (h : a < 0 ∨ 262144 ≤ a) :
    Calls Try.prog 34 #[P, .int .i64 a] w fun e w' => e = .returned (.tuple #[.int .u8 0, .bool false]) ∧ w = w' := by
  by_cases h0 : a < 0
  · clear h
    go_enter Try.func34, Try.ntmps34
    go_wp2
    go_ret2
    exact ⟨rfl, rfl⟩
  · have hg : 262144 ≤ a := by omega
    clear h
    go_enter Try.func34, Try.ntmps34
    go_wp2
    go_ret2
    exact ⟨rfl, rfl⟩
theorem rsetword_no (w : World) (P : Value) (a v : Int) (h : a < 131072 ∨ a % 4 ≠ 0 ∨ 262144 ≤ a) :
    Calls Try.prog 31 #[P, .int .i64 a, .int .u32 v] w fun e w' => e = .returned (.bool false) ∧ w = w' := by
  by_cases h0 : a < 131072
  · clear h
    go_enter Try.func31, Try.ntmps31
    go_wp2
    go_ret
    exact ⟨rfl, rfl⟩
  · have hp : 0 ≤ a := by omega
    by_cases h1 : a % 4 = 0
    · have hz : (a % 4 != 0) = false := by rw [h1]; rfl
      have hg : 262144 ≤ a := by omega
      clear h h1
      go_enter Try.func31, Try.ntmps31
      go_wp2
      go_ret
      exact ⟨rfl, rfl⟩
    · have hz : (a % 4 != 0) = true := by rw [bne_iff_ne]; exact h1
      clear h h1
      go_enter Try.func31, Try.ntmps31
      go_wp2
      go_ret
      exact ⟨rfl, rfl⟩
theorem rsetbyte_yes (w : World) (p g : Nat) (f : Nat → Int) (a v : Int) (h : Mm w 72 p g f) (h0 : 131072 ≤ a) (h2 : a < 262144) (hv : 0 ≤ v ∧ v ≤ 255) :
    Calls Try.prog 32 #[.pointer (some ⟨p, 0, none⟩), .int .i64 a, .int .u8 v] w fun e w' => e = .returned (.bool true) ∧ Mm w' 72 p g (upd f a.toNat v) ∧ Only (fun k => k = g) w w' := by
  obtain ⟨a, rfl⟩ := Int.eq_ofNat_of_zero_le (show 0 ≤ a by omega)
  rw [Int.toNat_natCast]
  have hpg : p ≠ g := by obtain ⟨h1, cs, h2, _⟩ := h; exact h1.ne h2 (by decide)
  have HPG := Lib.hid hpg; clear hpg
  have hc := h.1.cell 0
  simp at hc
  have hd := h.2.cell (i := a) (by have := mt; omega)
  have hf := h.2.frozen a
  have hg : ¬ 262144 ≤ (a : Int) := by omega
  have hn : ¬ (a : Int) < 131072 := by omega
  have hm : (a : Int) < (MT : Int) := by rw [mt]; omega
  have H := Lib.hid h; clear h h0 h2
  have HV := Lib.hid hv; clear hv
  generalize f a = x at *
  go_enter Try.func32, Try.ntmps32
  go_wp2
  go_ret
  exact ⟨rfl, ⟨H.out.1.far (p := ⟨g, a, none⟩) HPG.out _, H.out.2.set a HV.out⟩, Only.setCell (S := fun k => k = g) (Only.refl _ w) (p := ⟨g, a, none⟩) (.inl rfl) _⟩
theorem rsetbyte_no (w : World) (P : Value) (a v : Int) (h : a < 131072 ∨ 262144 ≤ a) :
    Calls Try.prog 32 #[P, .int .i64 a, .int .u8 v] w fun e w' => e = .returned (.bool false) ∧ w = w' := by
  by_cases h0 : a < 131072
  · clear h
    go_enter Try.func32, Try.ntmps32
    go_wp2
    go_ret
    exact ⟨rfl, rfl⟩
  · have hg : 262144 ≤ a := by omega
    clear h
    go_enter Try.func32, Try.ntmps32
    go_wp2
    go_ret
    exact ⟨rfl, rfl⟩
theorem rload_no (w : World) (P : Value) (a : Int) (A : Option Addr) (n c : Nat) (hl : ¬ canLoad a n) :
    Calls Try.prog 30 #[P, .int .i64 a, .slice A n c] w fun e w' => e = .returned (.bool false) ∧ w = w' := by
  unfold canLoad at hl
  by_cases h0 : a < 0
  · clear hl
    go_enter Try.func30, Try.ntmps30
    go_wp2
    go_ret
    exact ⟨rfl, rfl⟩
  · have hp : 0 ≤ a := by omega
    by_cases h1 : a % 2 = 0
    · have hz : (a % 2 != 0) = false := by rw [h1]; rfl
      by_cases h2 : 131072 < a
      · clear hl h1
        go_enter Try.func30, Try.ntmps30
        go_wp2
        go_ret
        exact ⟨rfl, rfl⟩
      · have h3 : (131072 - a) / 2 < (n : Int) := by omega
        clear hl h1
        go_enter Try.func30, Try.ntmps30
        go_wp2
        go_ret
        exact ⟨rfl, rfl⟩
    · have hz : (a % 2 != 0) = true := by rw [bne_iff_ne]; exact h1
      clear hl h1
      go_enter Try.func30, Try.ntmps30
      go_wp2
      go_ret
      exact ⟨rfl, rfl⟩
theorem rhalf_yes (w : World) (p g : Nat) (f : Nat → Int) (a : Int) (h : Mm w 72 p g f) (h0 : 0 ≤ a) (h1 : a % 2 = 0) (h2 : a < 131072) :
    Calls Try.prog 35 #[.pointer (some ⟨p, 0, none⟩), .int .i64 a] w fun e w' => e = .returned (.tuple #[.int .u16 (getB f a.toNat 2), .bool true]) ∧ ∃ q, w' = w.drewN q := by
  obtain ⟨a, rfl⟩ := Int.eq_ofNat_of_zero_le h0
  rw [Int.toNat_natCast]
  have hm := mt
  have hc := h.1.cell 0
  simp at hc
  have d0 := h.2.cell (i := a) (by omega)
  have d1 := h.2.cell (i := a + 1) (by omega)
  have r0 := h.2.range a
  have r1 := h.2.range (a + 1)
  have HG : Hid (getB f a 2 = f a + f (a + 1) * 256) := by unfold Hid getB getB getB; simp
  rw [HG.out]
  clear HG
  generalize f a = x0 at *
  generalize f (a + 1) = x1 at *
  have hz : ((a : Int) % 2 != 0) = false := by rw [h1]; rfl
  have hg : ¬ 131072 ≤ (a : Int) := by omega
  have hm3 : (a : Int) + 1 < (MT : Int) := by omega
  have hneg : ¬ (a : Int) < 0 := by omega
  have hmb : (MT : Int) ≤ 1000000 := by omega
  clear hm h1 h2 h h0
  go_enter Try.func35, Try.ntmps35
  go_wp2_with fail
  go_quiet (fail)
  go_wp2
  go_ret2
  exact ⟨rfl, nq, rfl⟩
set_option maxHeartbeats 400000 in
theorem rsetword_yes (w : World) (p g : Nat) (f : Nat → Int) (a v : Int) (h : Mm w 72 p g f) (h0 : 131072 ≤ a) (h1 : a % 4 = 0) (h2 : a < 262144) :
    Calls Try.prog 31 #[.pointer (some ⟨p, 0, none⟩), .int .i64 a, .int .u32 v] w fun e w' => e = .returned (.bool true) ∧ Mm w' 72 p g (setB f a.toNat 4 v) ∧ Only (fun k => k = g) w w' := by
  obtain ⟨a, rfl⟩ := Int.eq_ofNat_of_zero_le (show 0 ≤ a by omega)
  rw [Int.toNat_natCast]
  have hpg : p ≠ g := by obtain ⟨h1, cs, h2, _⟩ := h; exact h1.ne h2 (by decide)
  have HPG := Lib.hid hpg; clear hpg
  have hz : ((a : Int) % 4 != 0) = false := by rw [h1]; rfl
  have hg : ¬ 262144 ≤ (a : Int) := by omega
  have hl : ¬ (a : Int) < 131072 := by omega
  have hp : 0 ≤ (a : Int) := by omega
  have hb : (a : Int) + 4 ≤ (MT : Int) := by rw [mt]; omega
  have hM : (MT : Int) ≤ 1000000 := by rw [mt]; omega
  have H := Lib.hid h; clear h h1 h2 h0
  go_enter Try.func31, Try.ntmps31
  go_wp2_with fail
  go_loopw [7] (fun i wr => ∃ k : Nat, k ≤ 4 ∧ i = .int .i64 k ∧ Mm wr 72 p g (setB f a k v) ∧ Only (fun k => k = g) w wr) (fun i _ => 4 - (intOf i).toNat)
  case atStart => exact ⟨0, Nat.zero_le _, rfl, by rw [setB_zero]; exact H.out, Only.refl _ _⟩
  case round =>
    obtain ⟨k, hk, rfl, hm, hO⟩ := hrel
    have HM := Lib.hid hm; have HO := Lib.hid hO; clear hm hO
    by_cases hlt : (k : Int) < 4
    · have hc := HM.out.1.cell 0
      simp at hc
      have hd := HM.out.2.cell (i := a + k) (by omega)
      have hf := HM.out.2.frozen (a + k)
      have hak : (a : Int) + k < (MT : Int) := by omega
      obtain ⟨x, hx⟩ : ∃ x, setB f a k v (a + k) = x := ⟨_, rfl⟩
      clear hg hl hz hb hk
      rw [hx] at hd; clear hx
      go_wp2
      have hm2 : Mm (wr.setCell ⟨g, a + k, none⟩ (.int .u8 (byteAt v k)))  72 p g (setB f a (k + 1) v) :=
        ⟨(HM.out.1.far (p := ⟨g, a + k, none⟩) HPG.out _), (HM.out.2.set (a + k) (byteAt_range v k)).congr (setB_succ f a k v)⟩
      have ho2 : Only (fun j => j = g) w (wr.setCell ⟨g, a + k, none⟩ (.int .u8 (byteAt v k)))  := (HO.out.setCell (.inl rfl) _)
      go_roundw
      case rel => exact ⟨k + 1, by omega, by go_num, hm2, ho2⟩
      case measure => simp [intOf]; omega
    · have : k = 4 := by omega
      subst this
      go_wp2
      go_ret
      exact ⟨rfl, HM.out, HO.out⟩
set_option maxHeartbeats 1000000 in
theorem rload_yes (w : World) (p g : Nat) (f : Nat → Int) (a : Int) (A : Option Addr) (n c : Nat) (hs : List Int) (h : Mm w 72 p g f) (hh : Hs w A n hs) (hd : ∀ b o s, A = some ⟨b, o, s⟩ → 0 < n → b ≠ g) (hl : canLoad a n) :
    Calls Try.prog 30 #[.pointer (some ⟨p, 0, none⟩), .int .i64 a, .slice A n c] w fun e w' => e = .returned (.bool true) ∧ Mm w' 72 p g (loadB f a.toNat hs n) ∧ Only (fun k => k = g) w w' := by
  obtain ⟨h0, h1, h2, h3⟩ := hl
  obtain ⟨a, rfl⟩ := Int.eq_ofNat_of_zero_le h0
  rw [Int.toNat_natCast]
  have hpg : p ≠ g := by obtain ⟨h1, cs, h2, _⟩ := h; exact h1.ne h2 (by decide)
  have HPG := Lib.hid hpg; clear hpg
  have hz : ((a : Int) % 2 != 0) = false := by rw [h1]; rfl
  have h2' : ¬ 131072 < (a : Int) := by omega
  have h3' : ¬ (131072 - (a : Int)) / 2 < (n : Int) := by omega
  have hn : (n : Int) ≤ 65536 := by omega
  have hfit : (a : Int) + 2 * n ≤ 131072 := by omega
  have hneg : ¬ (a : Int) < 0 := by omega
  have hM : (MT : Int) ≤ 1000000 := by rw [mt]; omega
  have H := Lib.hid h; have HH := Lib.hid hh; have HD := Lib.hid hd
  have HF := Lib.hid hfit
  clear h hh hd h1 h2 h3 h0 hfit
  go_enter Try.func30, Try.ntmps30
  go_wp2_with fail
  go_loopw [7] (fun i wr => ∃ k : Nat, k ≤ n ∧ i = .int .i64 k ∧ Mm wr 72 p g (loadB f a hs k) ∧ Only (fun k => k = g) w wr) (fun i _ => n - (intOf i).toNat)
  case atStart => exact ⟨0, Nat.zero_le _, rfl, H.out, Only.refl _ _⟩
  case round =>
    obtain ⟨k, hk, rfl, hm, hO⟩ := hrel
    have HM := Lib.hid hm; have HO := Lib.hid hO; clear hm hO
    by_cases hlt : k < n
    · cases A with
      | none => have := HH.out.none_ rfl; omega
      | some ad =>
        obtain ⟨b, o, s⟩ := ad
        obtain ⟨hc, rfl, hb⟩ := HH.out.cell b o s k rfl hlt
        have hbg := HD.out b o none rfl (by omega)
        rw [← HO.out.cell (p := ⟨b, o + k, none⟩) hb hbg] at hc
        have hr := getD_half HH.out.half k
        have HS : Hid (loadB f a hs (k + 1) = setB (loadB f a hs k) (a + 2 * k) 2 (hs.getD k 0)) := rfl
        generalize hs.getD k 0 = x at *
        clear hb
        have hp := HM.out.1.cell 0
        simp at hp
        have hmt := mt
        have hft := HF.out
        have d0 := HM.out.2.cell (i := a + 2 * k) (by omega)
        have f0 := HM.out.2.frozen (a + 2 * k)
        have d1 := HM.out.2.cell (i := a + 2 * k + 1) (by omega)
        have f1 := HM.out.2.frozen (a + 2 * k + 1)
        have hak : (a : Int) + 2 * k + 1 < (MT : Int) := by omega
        obtain ⟨y0, hy⟩ : ∃ x, loadB f a hs k (a + 2 * k) = x := ⟨_, rfl⟩
        rw [hy] at d0; clear hy
        obtain ⟨y1, hy⟩ : ∃ x, loadB f a hs k (a + 2 * k + 1) = x := ⟨_, rfl⟩
        rw [hy] at d1; clear hy
        clear hmt hft
        have HE : Hid (∀ F : Nat → Int, upd (upd F (a + 2 * k) (x % 256)) (a + 2 * k + 1) (x / 256) = setB F (a + 2 * k) 2 x) := by
          intro F
          rw [← setB_succ, ← setB_succ, setB_zero]
          have h1 : byteAt x 0 = x % 256 := by unfold byteAt; simp
          have h2 : byteAt x 1 = x / 256 := by unfold byteAt; simp; omega
          rw [h1, h2]; rfl
        have hpg2 := HPG.out
        go_wp2_with fail
        go_region
        go_wp2_with fail
        go_region
        go_wp2
        have hm2 : Mm (((wr.setCell ⟨g, a + 2 * k, none⟩ (.int .u8 (x % 256))).setCell ⟨g, a + 2 * k + 1, none⟩ (.int .u8 (x / 256))).drew.drew) 72 p g (loadB f a hs (k + 1)) := by
          rw [HS.out, ← HE.out]
          exact ⟨((HM.out.1.far (p := ⟨g, a + 2 * k, none⟩) HPG.out _).far (p := ⟨g, a + 2 * k + 1, none⟩) HPG.out _).drew.drew, (HM.out.2.set (a + 2 * k) (by omega)).set (a + 2 * k + 1) (by omega)⟩
        have ho2 : Only (fun j => j = g) w (((wr.setCell ⟨g, a + 2 * k, none⟩ (.int .u8 (x % 256))).setCell ⟨g, a + 2 * k + 1, none⟩ (.int .u8 (x / 256))).drew.drew) := ((HO.out.setCell (.inl rfl) _).setCell (.inl rfl) _).drew.drew
        go_roundw
        case rel => exact ⟨k + 1, by omega, by go_num, hm2, ho2⟩
        case measure => simp [intOf]; omega
    · have : k = n := by omega
      subst this
      go_wp2
      go_ret
      exact ⟨rfl, HM.out, HO.out⟩
end Go.Proofs.Ytmbaoaoglhonfaa
