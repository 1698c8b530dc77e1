/- MERGED by mergev.py: XMem3 XMemR. -/
import Derived.Test.YtpihjhfaeloapaaVa
import Derived.Laws.BitsLemmas
import Derived.Laws.BitsAllLaws
import Derived.RegionTactic
import Derived.ChangeAlike
import Derived.Laws.MakeOwn
import Derived.Deep.DeepCutAuto
import Derived.Deep.QuietTactic
import Derived.BigQuiet
namespace Go.Proofs.Ytpihjhfaeloapaa
open Go.RowKit On
def MT : Nat := 262144
/-- bytes in a block -/
def Bytes (w : World) (g : Nat) (f : Nat → Int) : Prop := ∃ cs, Blk w g 5 cs ∧ cs.size = MT ∧ (∀ i, i < MT → cs[i]? = some (.int .u8 (f i))) ∧ ∀ i, 0 ≤ f i ∧ f i ≤ 255
/-- a memory of type t at block p, its bytes in block g -/
def Mm (w : World) (t : TypeId) (p g : Nat) (f : Nat → Int) : Prop := Blk w p t #[.slice (some ⟨g, 0, none⟩) MT MT] ∧ Bytes w g f
def byteAt (v : Int) (i : Nat) : Int := v / 2 ^ (8 * i) % 256
/-- so many bytes of a number, written from a place on -/
def setB (f : Nat → Int) (a k : Nat) (v : Int) : Nat → Int := fun j => if a ≤ j ∧ j < a + k then byteAt v (j - a) else f j
/-- a number of so many bytes -/
def getB (f : Nat → Int) (a : Nat) : Nat → Int
  | 0 => 0
  | n + 1 => getB f a n + f (a + n) * 2 ^ (8 * n)
theorem Bytes.cell {w : World} {g : Nat} {f : Nat → Int} (h : Bytes w g f) {i : Nat} (hi : i < MT) : w.cell? ⟨g, i, none⟩ = some (.int .u8 (f i)) := by
  obtain ⟨cs, h1, _, h3, _⟩ := h; rw [h1.cell]; exact h3 i hi
theorem Bytes.range {w : World} {g : Nat} {f : Nat → Int} (h : Bytes w g f) (i : Nat) : 0 ≤ f i ∧ f i ≤ 255 := by
  obtain ⟨cs, _, _, _, h4⟩ := h; exact h4 i
theorem Bytes.frozen {w : World} {g : Nat} {f : Nat → Int} (h : Bytes w g f) (i : Nat) : w.frozen? ⟨g, i, none⟩ = false := by
  obtain ⟨cs, h1, _⟩ := h; exact h1.frozen i
def upd (f : Nat → Int) (i : Nat) (v : Int) : Nat → Int := fun j => if j = i then v else f j
theorem upd_self (f : Nat → Int) (i : Nat) (v : Int) : upd f i v i = v := if_pos rfl
theorem upd_ne (f : Nat → Int) {i j : Nat} (v : Int) (h : j ≠ i) : upd f i v j = f j := if_neg h
theorem Bytes.set {w : World} {g : Nat} {f : Nat → Int} (h : Bytes w g f) (i : Nat) {v : Int} (hv : 0 ≤ v ∧ v ≤ 255) : Bytes (w.setCell ⟨g, i, none⟩ (.int .u8 v)) g (upd f i v) := by
  obtain ⟨cs, h1, h2, h3, h4⟩ := h
  refine ⟨_, h1.set i _, by simpa using h2, fun j hj => ?_, fun j => ?_⟩
  · by_cases e : j = i
    · subst e; rw [Array.getElem?_setIfInBounds_self_of_lt (by omega), upd_self]
    · rw [Array.getElem?_setIfInBounds_ne (by omega), upd_ne _ _ e]; exact h3 j hj
  · by_cases e : j = i
    · subst e; rw [upd_self]; exact hv
    · rw [upd_ne _ _ e]; exact h4 j
theorem Bytes.congr {w : World} {g : Nat} {f k : Nat → Int} (h : Bytes w g f) (e : f = k) : Bytes w g k := e ▸ h
theorem Bytes.only {w w' : World} {g : Nat} {f : Nat → Int} {S : Nat → Prop} (h : Bytes w g f) (hO : Only S w w') (hn : ¬ S g) : Bytes w' g f := by
  obtain ⟨cs, h1, h2⟩ := h; exact ⟨cs, h1.only hO hn, h2⟩
theorem setB_zero (f : Nat → Int) (a : Nat) (v : Int) : setB f a 0 v = f := by funext j; unfold setB; rw [if_neg (by omega)]
theorem setB_succ (f : Nat → Int) (a k : Nat) (v : Int) : upd (setB f a k v) (a + k) (byteAt v k) = setB f a (k + 1) v := by
  funext j; unfold upd setB
  by_cases e : j = a + k
  · subst e; rw [if_pos rfl, if_pos (by omega)]; congr 1; omega
  · rw [if_neg e]
    by_cases h : a ≤ j ∧ j < a + k
    · rw [if_pos h, if_pos (by omega)]
    · rw [if_neg h, if_neg (by omega)]
theorem byteAt_range (v : Int) (i : Nat) : 0 ≤ byteAt v i ∧ byteAt v i ≤ 255 := by unfold byteAt; omega
theorem getB_range {f : Nat → Int} (hf : ∀ i, 0 ≤ f i ∧ f i ≤ 255) (a n : Nat) : 0 ≤ getB f a n ∧ getB f a n < 2 ^ (8 * n) := by
  induction n with
  | zero => simp [getB]
  | succ n ih =>
    have h := hf (a + n)
    have hp : (0 : Int) < 2 ^ (8 * n) := Int.pow_pos (by omega)
    have e : (2 : Int) ^ (8 * (n + 1)) = 256 * 2 ^ (8 * n) := by rw [show 8 * (n + 1) = 8 + 8 * n by omega, Int.pow_add]; rfl
    show 0 ≤ getB f a n + f (a + n) * 2 ^ (8 * n) ∧ getB f a n + f (a + n) * 2 ^ (8 * n) < _
    rw [e]
    have h1 : 0 ≤ f (a + n) * 2 ^ (8 * n) := Int.mul_nonneg h.1 (Int.le_of_lt hp)
    have h2 : f (a + n) * 2 ^ (8 * n) ≤ 255 * 2 ^ (8 * n) := Int.mul_le_mul_of_nonneg_right h.2 (Int.le_of_lt hp)
    omega
theorem wraps_u32 (n : Int) (h₀ : 0 ≤ n) (h₁ : n < 2 ^ 32) : IntKind.u32.wrap n = n := by rw [IntKind.wrap_u32]; omega
theorem bits_comm_or (k : IntKind) (x y : Int) : bits .or k x y = bits .or k y x := by unfold bits; simp only [BitVec.or_comm]
theorem get_step {f : Nat → Int} (hf : ∀ i, 0 ≤ f i ∧ f i ≤ 255) (a n : Nat) (hn : n < 4) :
    bits .or .u32 (getB f a n) (f (a + n) * 2 ^ (8 * n) % 4294967296) = getB f a (n + 1) := by
  have h := hf (a + n)
  have hr := getB_range hf a n
  have hr2 := getB_range hf a (n + 1)
  have hp : (0 : Int) < 2 ^ (8 * n) := Int.pow_pos (by omega)
  have hp4 : (2 : Int) ^ (8 * (n + 1)) ≤ 2 ^ 32 := by
    have := Nat.pow_le_pow_right (show 0 < 2 by omega) (show 8 * (n + 1) ≤ 32 by omega)
    exact_mod_cast this
  have h1 : 0 ≤ f (a + n) * 2 ^ (8 * n) := Int.mul_nonneg h.1 (Int.le_of_lt hp)
  have hs : getB f a (n + 1) = getB f a n + f (a + n) * 2 ^ (8 * n) := rfl
  have hlt : f (a + n) * 2 ^ (8 * n) < 2 ^ 32 := by omega
  rw [Int.emod_eq_of_lt h1 (by omega), bits_comm_or, bits_join .u32 32 (by decide) wraps_u32 (8 * n) _ _ h1 (by simp) hlt hr.1 hr.2 (by omega), hs]
  omega
theorem info_byte : (Try.prog.info? 5).map (fun i => (i.zero, i.size, i.bytes)) = some (some (.int .u8 0), 1, 1) := by kernel_rfl
theorem make_mem : ∀ w : World, (Instr.makeSlice 72 (.int .i64 262144) (.int .i64 262144)).run Try.prog w = .ok (.slice (some ⟨w.heap.size, 0, none⟩) MT MT) (w.alloc (.cells (madeCells #[.int .u8 0] MT) 5)) := by
  intro w
  obtain ⟨i0, hi0, hz0, hz1, hz2⟩ := info_parts info_byte
  have := run_make (P := Try.prog) w 72 5 i0 _ Try.underlying72 hi0 hz0 .i64 .i64 (MT : Int) (MT : Int) (by unfold MT; omega) (by omega) (by rw [hz2]; unfold MT; omega) (by unfold MT; omega)
  simp only [Int.toNat_natCast, hz1, Nat.mul_one, Value.cells] at this
  exact this
theorem Bytes.made (w : World) : Bytes (w.alloc (.cells (madeCells #[.int .u8 0] MT) 5)) w.heap.size (fun _ => 0) := by
  refine ⟨_, Blk.new _ _ _, ?_, ?_, fun _ => ⟨Int.le_refl _, by show (0 : Int) ≤ 255; omega⟩⟩
  · unfold madeCells; simp
  · intro i hi
    rw [← Array.getElem?_toList, toList_madeCells_one, List.getElem?_replicate, if_pos hi]
theorem memNew_c (w : World) : Calls Try.prog 11 #[] w fun e w' => ∃ p g, e = .returned (.pointer (some ⟨p, 0, none⟩)) ∧ Mm w' 74 p g (fun _ => 0) ∧ w.heap.size ≤ p ∧ w.heap.size ≤ g ∧ Below w.heap.size w w' := by
  have hmk := make_mem
  go_enter Try.func11, Try.ntmps11
  go_wp2
  go_ret
  refine ⟨_, _, rfl, ⟨?_, ?_⟩, by omega, Nat.le_refl _, ((Below.refl _ _).alloc (Nat.le_refl _) _).alloc (by simp) _⟩
  · have := Blk.new (w.alloc (.cells (madeCells #[.int .u8 0] MT) 5)) 74 #[.slice (some ⟨w.heap.size, 0, none⟩) MT MT]
    rwa [World.size_alloc] at this
  · exact (Bytes.made w).only (S := fun _ => False) ((Only.refl _ _).alloc _) (fun h => h)
theorem put_eq (v : Int) (k : Nat) : v / 2 ^ (8 * (k : Int)).toNat % 256 = byteAt v k := by
  unfold byteAt; rw [show (8 * (k : Int)).toNat = 8 * k by omega]
set_option maxHeartbeats 400000 in
theorem put_c (w : World) (p g : Nat) (f : Nat → Int) (a : Int) (n : Nat) (v : Int) (h : Mm w 74 p g f) (hn : n ≤ 4) (ha : 0 ≤ a) (han : a + n ≤ (MT : Int)) :
    Calls Try.prog 33 #[.pointer (some ⟨p, 0, none⟩), .int .i64 a, .int .i64 (n : Int), .int .u32 v] w fun e w' => e = .returned (.tuple #[]) ∧ Mm w' 74 p g (setB f a.toNat n v) ∧ Only (fun k => k = g) w w' := by
  obtain ⟨a, rfl⟩ := Int.eq_ofNat_of_zero_le ha
  rw [Int.toNat_natCast]
  have hM : (MT : Int) ≤ 1000000 := by unfold MT; omega
  have hpg : p ≠ g := by obtain ⟨h1, cs, h2, _⟩ := h; exact h1.ne h2 (by decide)
  have HPG := Lib.hid hpg; clear hpg
  have H := Lib.hid h; clear h ha
  go_enter Try.func33, Try.ntmps33
  go_wp2_with fail
  go_loopw [10] (fun i wr => ∃ k : Nat, k ≤ n ∧ i = .int .i64 k ∧ Mm wr 74 p g (setB f a k v) ∧ Only (fun k => k = g) w wr) (fun i _ => n - (intOf i).toNat)
  case atStart => exact ⟨0, Nat.zero_le _, rfl, by rw [setB_zero]; exact H.out, Only.refl _ _⟩
  case round =>
    obtain ⟨k, hk, rfl, hm, hO⟩ := hrel
    have HM := Lib.hid hm; have HO := Lib.hid hO; clear hm hO
    by_cases hlt : k < n
    · have hc := HM.out.1.cell 0
      simp at hc
      have hd := HM.out.2.cell (i := a + k) (by omega)
      have hf := HM.out.2.frozen (a + k)
      have hak : (a : Int) + k < (MT : Int) := by omega
      obtain ⟨x, hx⟩ : ∃ x, setB f a k v (a + k) = x := ⟨_, rfl⟩
      rw [hx] at hd; clear hx
      have hk3 : k ≤ 3 := by omega
      go_wp2_with fail
      go_region
      go_wp2
      have hm2 : Mm ((wr.setCell ⟨g, a + k, none⟩ (.int .u8 (byteAt v k))).drew) 74 p g (setB f a (k + 1) v) :=
        ⟨(HM.out.1.far (p := ⟨g, a + k, none⟩) HPG.out _).drew, (HM.out.2.set (a + k) (byteAt_range v k)).congr (setB_succ f a k v)⟩
      have ho2 : Only (fun j => j = g) w ((wr.setCell ⟨g, a + k, none⟩ (.int .u8 (byteAt v k))).drew) := (HO.out.setCell (.inl rfl) _).drew
      go_roundw
      case rel => exact ⟨k + 1, by omega, by go_num, hm2, ho2⟩
      case measure => simp [intOf]; omega
    · have : k = n := by omega
      subst this
      go_wp2
      go_end0
      exact ⟨rfl, HM.out, HO.out⟩
theorem getB_succ (f : Nat → Int) (a n : Nat) : getB f a (n + 1) = getB f a n + f (a + n) * 2 ^ (8 * n) := rfl
set_option maxHeartbeats 400000 in
theorem get_c (w : World) (p g : Nat) (f : Nat → Int) (a : Int) (n : Nat) (h : Mm w 74 p g f) (hn : n ≤ 4) (ha : 0 ≤ a) (han : a + n ≤ (MT : Int)) :
    Calls Try.prog 51 #[.pointer (some ⟨p, 0, none⟩), .int .i64 a, .int .i64 (n : Int)] w fun e w' => e = .returned (.int .u32 (getB f a.toNat n)) ∧ w = w' := by
  obtain ⟨a, rfl⟩ := Int.eq_ofNat_of_zero_le ha
  rw [Int.toNat_natCast]
  have hM : (MT : Int) ≤ 1000000 := by unfold MT; omega
  have hc := h.1.cell 0
  simp at hc
  have H := Lib.hid h; clear h ha
  go_enter Try.func51, Try.ntmps51
  go_wp2_with fail
  go_loop [7, 10] (fun s i => ∃ k : Nat, k ≤ n ∧ i = .int .i64 k ∧ s = .int .u32 (getB f a k)) (fun _ i => n - (intOf i).toNat)
  case atStart => exact ⟨0, Nat.zero_le _, rfl, rfl⟩
  case round =>
    obtain ⟨k, hk, rfl, rfl⟩ := hrel
    by_cases hlt : k < n
    · have hd := H.out.2.cell (i := a + k) (by omega)
      have hak : (a : Int) + k < (MT : Int) := by omega
      have hk3 : k ≤ 3 := by omega
      have HS : Hid (bits .or .u32 (getB f a k) (f (a + k) * 2 ^ (8 * k) % 4294967296) = getB f a (k + 1)) := get_step H.out.2.range a k (by omega)
      have hb0 : 0 ≤ f (a + k) ∧ f (a + k) ≤ 255 := H.out.2.range _
      generalize f (a + k) = x at *
      go_wp2
      go_round
      case rel => exact ⟨k + 1, by omega, by go_num, by rw [← HS.out]⟩
      case measure => simp [intOf]; omega
    · have : k = n := by omega
      subst this
      go_wp2
      go_ret
      exact ⟨rfl, rfl⟩
end Go.Proofs.Ytpihjhfaeloapaa
namespace Go.Proofs.Ytpihjhfaeloapaa
open Go.RowKit On
theorem mt : (MT : Int) = 262144 := rfl
theorem word_yes (w : World) (p g : Nat) (f : Nat → Int) (a : Int) (h : Mm w 74 p g f) (h0 : 0 ≤ a) (h1 : a % 4 = 0) (h2 : a < 262144) :
    Calls Try.prog 25 #[.pointer (some ⟨p, 0, none⟩), .int .i64 a] w fun e w' => e = .returned (.tuple #[.int .u32 (getB f a.toNat 4), .bool true]) ∧ w = w' := by
  have H := Lib.hid h; clear h
  have hz : (a % 4 != 0) = false := by rw [h1]; rfl
  have hg : ¬ 262144 ≤ a := by omega
  have hb : a + ((4 : Nat) : Int) ≤ (MT : Int) := by rw [mt]; omega
  have HB := Lib.hid hb; clear hb h1
  have hgr := getB_range H.out.2.range a.toNat 4
  have hg1 : getB f a.toNat 4 < 4294967296 := hgr.2
  have hg0 := hgr.1
  clear hgr
  go_enter Try.func25, Try.ntmps25
  go_wp2_with (go_at_call 51; (refine (get_c w p g f a 4 H.out (by omega) h0 HB.out).mono ?_); rintro e w' ⟨rfl, rfl⟩)
  go_ret2
  exact ⟨rfl, rfl⟩
theorem word_no (w : World) (P : Value) (a : Int) (h : a < 0 ∨ a % 4 ≠ 0 ∨ 262144 ≤ a) :
    Calls Try.prog 25 #[P, .int .i64 a] w fun e w' => e = .returned (.tuple #[.int .u32 0, .bool false]) ∧ w = w' := by
  by_cases h0 : a < 0
  · clear h
    go_enter Try.func25, Try.ntmps25
    go_wp2
    go_ret2
    exact ⟨rfl, rfl⟩
  · by_cases h1 : a % 4 = 0
    · have hz : (a % 4 != 0) = false := by rw [h1]; rfl
      have hg : 262144 ≤ a := by omega
      clear h h1
      have h0 : 0 ≤ a := by omega
      go_enter Try.func25, Try.ntmps25
      go_wp2
      go_ret2
      exact ⟨rfl, rfl⟩
    · have hz : (a % 4 != 0) = true := by rw [bne_iff_ne]; exact h1
      clear h h1
      have h0 : 0 ≤ a := by omega
      go_enter Try.func25, Try.ntmps25
      go_wp2
      go_ret2
      exact ⟨rfl, rfl⟩
theorem half_yes (w : World) (p g : Nat) (f : Nat → Int) (a : Int) (h : Mm w 74 p g f) (h0 : 0 ≤ a) (h1 : a % 2 = 0) (h2 : a < 131072) :
    Calls Try.prog 52 #[.pointer (some ⟨p, 0, none⟩), .int .i64 a] w fun e w' => e = .returned (.tuple #[.int .u16 (getB f a.toNat 2), .bool true]) ∧ w = w' := by
  have H := Lib.hid h; clear h
  have hz : (a % 2 != 0) = false := by rw [h1]; rfl
  have hg : ¬ 131072 ≤ a := by omega
  have hb : a + ((2 : Nat) : Int) ≤ (MT : Int) := by rw [mt]; omega
  have HB := Lib.hid hb; clear hb h1
  have hgr := getB_range H.out.2.range a.toNat 2
  have hg1 : getB f a.toNat 2 < 65536 := hgr.2
  have hg0 := hgr.1
  clear hgr
  go_enter Try.func52, Try.ntmps52
  go_wp2_with (go_at_call 51; (refine (get_c w p g f a 2 H.out (by omega) h0 HB.out).mono ?_); rintro e w' ⟨rfl, rfl⟩)
  go_ret2
  exact ⟨rfl, rfl⟩
theorem half_no (w : World) (P : Value) (a : Int) (h : a < 0 ∨ a % 2 ≠ 0 ∨ 131072 ≤ a) :
    Calls Try.prog 52 #[P, .int .i64 a] w fun e w' => e = .returned (.tuple #[.int .u16 0, .bool false]) ∧ w = w' := by
  by_cases h0 : a < 0
  · clear h
    go_enter Try.func52, Try.ntmps52
    go_wp2
    go_ret2
    exact ⟨rfl, rfl⟩
  · by_cases h1 : a % 2 = 0
    · have hz : (a % 2 != 0) = false := by rw [h1]; rfl
      have hg : 131072 ≤ a := by omega
      clear h h1
      have h0 : 0 ≤ a := by omega
      go_enter Try.func52, Try.ntmps52
      go_wp2
      go_ret2
      exact ⟨rfl, rfl⟩
    · have hz : (a % 2 != 0) = true := by rw [bne_iff_ne]; exact h1
      clear h h1
      have h0 : 0 ≤ a := by omega
      go_enter Try.func52, Try.ntmps52
      go_wp2
      go_ret2
      exact ⟨rfl, rfl⟩
theorem byte_yes (w : World) (p g : Nat) (f : Nat → Int) (a : Int) (h : Mm w 74 p g f) (h0 : 0 ≤ a) (h2 : a < 262144) :
    Calls Try.prog 60 #[.pointer (some ⟨p, 0, none⟩), .int .i64 a] w fun e w' => e = .returned (.tuple #[.int .u8 (f a.toNat), .bool true]) ∧ w = w' := by
  obtain ⟨a, rfl⟩ := Int.eq_ofNat_of_zero_le h0
  rw [Int.toNat_natCast]
  have hc := h.1.cell 0
  simp at hc
  have hd := h.2.cell (i := a) (by have := mt; omega)
  have hg : ¬ 262144 ≤ (a : Int) := by omega
  have hn : ¬ (a : Int) < 0 := by omega
  have hm : (a : Int) < (MT : Int) := by rw [mt]; omega
  clear h h2 h0
  go_enter Try.func60, Try.ntmps60
  go_wp2
  go_ret2
  exact ⟨rfl, rfl⟩
theorem byte_no (w : World) (P : Value) (a : Int) (h : a < 0 ∨ 262144 ≤ a) :
    Calls Try.prog 60 #[P, .int .i64 a] w fun e w' => e = .returned (.tuple #[.int .u8 0, .bool false]) ∧ w = w' := by
  by_cases h0 : a < 0
  · clear h
    go_enter Try.func60, Try.ntmps60
    go_wp2
    go_ret2
    exact ⟨rfl, rfl⟩
  · have hg : 262144 ≤ a := by omega
    clear h
    go_enter Try.func60, Try.ntmps60
    go_wp2
    go_ret2
    exact ⟨rfl, rfl⟩
theorem setword_yes (w : World) (p g : Nat) (f : Nat → Int) (a v : Int) (h : Mm w 74 p g f) (h0 : 131072 ≤ a) (h1 : a % 4 = 0) (h2 : a < 262144) :
    Calls Try.prog 61 #[.pointer (some ⟨p, 0, none⟩), .int .i64 a, .int .u32 v] w fun e w' => e = .returned (.bool true) ∧ Mm w' 74 p g (setB f a.toNat 4 v) ∧ Only (fun k => k = g) w w' := by
  have H := Lib.hid h; clear h
  have hz : (a % 4 != 0) = false := by rw [h1]; rfl
  have hg : ¬ 262144 ≤ a := by omega
  have hl : ¬ a < 131072 := by omega
  have hp : 0 ≤ a := by omega
  have hb : a + ((4 : Nat) : Int) ≤ (MT : Int) := by rw [mt]; omega
  have HB := Lib.hid hb; clear hb h1
  go_enter Try.func61, Try.ntmps61
  go_wp2_with fail
  refine (put_c w p g f a 4 v H.out (by omega) hp HB.out).mono ?_
  rintro e w' ⟨rfl, hm, hO⟩
  have HM := Lib.hid hm; have HO := Lib.hid hO; clear hm hO
  go_wp2_with fail
  go_ret
  exact ⟨rfl, HM.out, HO.out⟩
theorem setword_no (w : World) (P : Value) (a v : Int) (h : a < 131072 ∨ a % 4 ≠ 0 ∨ 262144 ≤ a) :
    Calls Try.prog 61 #[P, .int .i64 a, .int .u32 v] w fun e w' => e = .returned (.bool false) ∧ w = w' := by
  by_cases h0 : a < 131072
  · clear h
    go_enter Try.func61, Try.ntmps61
    go_wp2
    go_ret
    exact ⟨rfl, rfl⟩
  · have hp : 0 ≤ a := by omega
    by_cases h1 : a % 4 = 0
    · have hz : (a % 4 != 0) = false := by rw [h1]; rfl
      have hg : 262144 ≤ a := by omega
      clear h h1
      go_enter Try.func61, Try.ntmps61
      go_wp2
      go_ret
      exact ⟨rfl, rfl⟩
    · have hz : (a % 4 != 0) = true := by rw [bne_iff_ne]; exact h1
      clear h h1
      go_enter Try.func61, Try.ntmps61
      go_wp2
      go_ret
      exact ⟨rfl, rfl⟩
theorem setbyte_yes (w : World) (p g : Nat) (f : Nat → Int) (a v : Int) (h : Mm w 74 p g f) (h0 : 131072 ≤ a) (h2 : a < 262144) (hv : 0 ≤ v ∧ v ≤ 255) :
    Calls Try.prog 62 #[.pointer (some ⟨p, 0, none⟩), .int .i64 a, .int .u8 v] w fun e w' => e = .returned (.bool true) ∧ Mm w' 74 p g (upd f a.toNat v) ∧ Only (fun k => k = g) w w' := by
  obtain ⟨a, rfl⟩ := Int.eq_ofNat_of_zero_le (show 0 ≤ a by omega)
  rw [Int.toNat_natCast]
  have hpg : p ≠ g := by obtain ⟨h1, cs, h2, _⟩ := h; exact h1.ne h2 (by decide)
  have HPG := Lib.hid hpg; clear hpg
  have hc := h.1.cell 0
  simp at hc
  have hd := h.2.cell (i := a) (by have := mt; omega)
  have hf := h.2.frozen a
  have hg : ¬ 262144 ≤ (a : Int) := by omega
  have hn : ¬ (a : Int) < 131072 := by omega
  have hm : (a : Int) < (MT : Int) := by rw [mt]; omega
  have H := Lib.hid h; clear h h0 h2
  have HV := Lib.hid hv; clear hv
  generalize f a = x at *
  go_enter Try.func62, Try.ntmps62
  go_wp2
  go_ret
  exact ⟨rfl, ⟨H.out.1.far (p := ⟨g, a, none⟩) HPG.out _, H.out.2.set a HV.out⟩, Only.setCell (S := fun k => k = g) (Only.refl _ w) (p := ⟨g, a, none⟩) (.inl rfl) _⟩
theorem setbyte_no (w : World) (P : Value) (a v : Int) (h : a < 131072 ∨ 262144 ≤ a) :
    Calls Try.prog 62 #[P, .int .i64 a, .int .u8 v] w fun e w' => e = .returned (.bool false) ∧ w = w' := by
  by_cases h0 : a < 131072
  · clear h
    go_enter Try.func62, Try.ntmps62
    go_wp2
    go_ret
    exact ⟨rfl, rfl⟩
  · have hg : 262144 ≤ a := by omega
    clear h
    go_enter Try.func62, Try.ntmps62
    go_wp2
    go_ret
    exact ⟨rfl, rfl⟩
end Go.Proofs.Ytpihjhfaeloapaa
namespace Go.Proofs.Ytpihjhfaeloapaa
open Go.RowKit On
/-- a slice of halfwords -/
structure Hs (w : World) (A : Option Addr) (n : Nat) (xs : List Int) : Prop where
  len : xs.length = n
  half : ∀ x ∈ xs, 0 ≤ x ∧ x ≤ 65535
  none_ : A = none → n = 0
  cell : ∀ b o s i, A = some ⟨b, o, s⟩ → i < n → w.cell? ⟨b, o + i, none⟩ = some (.int .u16 (xs.getD i 0)) ∧ s = none ∧ b < w.heap.size
theorem Hs.keep {w w' : World} {A : Option Addr} {n : Nat} {xs : List Int} (h : Hs w A n xs) (hk : ∀ b o s, A = some ⟨b, o, s⟩ → b < w.heap.size → ∀ i, w'.cell? ⟨b, i, none⟩ = w.cell? ⟨b, i, none⟩) (hs : w.heap.size ≤ w'.heap.size) : Hs w' A n xs :=
  ⟨h.len, h.half, h.none_, fun b o s i hA hi => by
    obtain ⟨h1, h2, h3⟩ := h.cell b o s i hA hi
    exact ⟨(hk b o s hA h3 _).trans h1, h2, Nat.lt_of_lt_of_le h3 hs⟩⟩
theorem Hs.below {w w' : World} {A : Option Addr} {n : Nat} {xs : List Int} (h : Hs w A n xs) (hb : Below w.heap.size w w') : Hs w' A n xs :=
  h.keep (fun b _ _ _ hlt i => hb.cell (p := ⟨b, i, none⟩) hlt) hb.size
theorem Hs.only {w w' : World} {A : Option Addr} {n : Nat} {xs : List Int} {S : Nat → Prop} (h : Hs w A n xs) (hO : Only S w w') (hS : ∀ b o s, A = some ⟨b, o, s⟩ → 0 < n → ¬ S b) : Hs w' A n xs := by
  by_cases h0 : n = 0
  · subst h0; exact ⟨h.len, h.half, h.none_, fun b o s i _ hi => by omega⟩
  · exact h.keep (fun b o s hA hb i => hO.cell (p := ⟨b, i, none⟩) hb (hS b o s hA (by omega))) hO.size
theorem Hs.drewN {w : World} {A : Option Addr} {n : Nat} {xs : List Int} (h : Hs w A n xs) (k : Nat) : Hs (w.drewN k) A n xs := ⟨h.len, h.half, h.none_, h.cell⟩
theorem Hs.take {w : World} {A : Option Addr} {n : Nat} {xs : List Int} (h : Hs w A n xs) {k : Nat} (hk : k ≤ n) : Hs w A k (xs.take k) :=
  ⟨by rw [List.length_take, h.len]; omega, fun x hx => h.half x (List.mem_of_mem_take hx), fun e => by have := h.none_ e; omega, fun b o s i hA hi => by
    obtain ⟨h1, h2, h3⟩ := h.cell b o s i hA (by omega)
    refine ⟨?_, h2, h3⟩
    rw [h1]; simp [List.getD_eq_getElem?_getD, hi]⟩
theorem getD_half {xs : List Int} (h : ∀ x ∈ xs, 0 ≤ x ∧ x ≤ 65535) (k : Nat) : 0 ≤ xs.getD k 0 ∧ xs.getD k 0 ≤ 65535 := by
  rw [List.getD_eq_getElem?_getD]
  by_cases hk : k < xs.length
  · rw [List.getElem?_eq_getElem hk]; exact h _ (List.getElem_mem hk)
  · rw [List.getElem?_eq_none (by omega)]; simp
/-- halfwords laid from a place on -/
def loadB (f : Nat → Int) (a : Nat) (hs : List Int) : Nat → Nat → Int
  | 0 => f
  | k + 1 => setB (loadB f a hs k) (a + 2 * k) 2 (hs.getD k 0)
def canLoad (a : Int) (n : Nat) : Prop := 0 ≤ a ∧ a % 2 = 0 ∧ a ≤ 131072 ∧ (n : Int) ≤ (131072 - a) / 2
set_option maxHeartbeats 400000 in
theorem load_yes (w : World) (p g : Nat) (f : Nat → Int) (a : Int) (A : Option Addr) (n c : Nat) (hs : List Int) (h : Mm w 74 p g f) (hh : Hs w A n hs) (hd : ∀ b o s, A = some ⟨b, o, s⟩ → 0 < n → b ≠ g) (hl : canLoad a n) :
    Calls Try.prog 18 #[.pointer (some ⟨p, 0, none⟩), .int .i64 a, .slice A n c] w fun e w' => e = .returned (.bool true) ∧ Mm w' 74 p g (loadB f a.toNat hs n) ∧ Only (fun k => k = g) w w' := by
  obtain ⟨h0, h1, h2, h3⟩ := hl
  obtain ⟨a, rfl⟩ := Int.eq_ofNat_of_zero_le h0
  rw [Int.toNat_natCast]
  have hz : ((a : Int) % 2 != 0) = false := by rw [h1]; rfl
  have h2' : ¬ 131072 < (a : Int) := by omega
  have h3' : ¬ (131072 - (a : Int)) / 2 < (n : Int) := by omega
  have hn : (n : Int) ≤ 65536 := by omega
  have hfit : (a : Int) + 2 * n ≤ 131072 := by omega
  have hneg : ¬ (a : Int) < 0 := by omega
  have H := Lib.hid h; have HH := Lib.hid hh; have HD := Lib.hid hd
  have HF := Lib.hid hfit
  clear h hh hd h1 h2 h3 h0 hfit
  go_enter Try.func18, Try.ntmps18
  go_wp2_with fail
  go_loopw [30] (fun i wr => ∃ k : Nat, k ≤ n ∧ i = .int .i64 k ∧ Mm wr 74 p g (loadB f a hs k) ∧ Only (fun k => k = g) w wr) (fun i _ => n - (intOf i).toNat)
  case atStart => exact ⟨0, Nat.zero_le _, rfl, H.out, Only.refl _ _⟩
  case round =>
    obtain ⟨k, hk, rfl, hm, hO⟩ := hrel
    have HM := Lib.hid hm; have HO := Lib.hid hO; clear hm hO
    by_cases hlt : k < n
    · cases A with
      | none => have := HH.out.none_ rfl; omega
      | some ad =>
        obtain ⟨b, o, s⟩ := ad
        obtain ⟨hc, rfl, hb⟩ := HH.out.cell b o s k rfl hlt
        rw [← HO.out.cell (p := ⟨b, o + k, none⟩) hb (HD.out b o none rfl (by omega))] at hc
        have hr := getD_half HH.out.half k
        have HS : Hid (loadB f a hs (k + 1) = setB (loadB f a hs k) (a + 2 * k) 2 (hs.getD k 0)) := rfl
        generalize hs.getD k 0 = x at *
        clear hb
        go_wp2_with fail
        refine (put_c wr p g _ ((a : Int) + 2 * k) 2 x HM.out (by omega) (by omega) (by rw [mt]; have := HF.out; omega)).mono ?_
        rintro e w2 ⟨rfl, hm, hO⟩
        rw [show ((a : Int) + 2 * k).toNat = a + 2 * k by omega] at hm
        have HM2 := Lib.hid hm; have HO2 := Lib.hid (HO.out.trans hO (fun _ _ h => h)); clear hm hO
        go_wp2_with fail
        go_roundw
        case rel => exact ⟨k + 1, by omega, by go_num, by rw [HS.out]; exact HM2.out, HO2.out⟩
        case measure => simp [intOf]; omega
    · have : k = n := by omega
      subst this
      go_wp2
      go_ret
      exact ⟨rfl, HM.out, HO.out⟩
theorem load_no (w : World) (P : Value) (a : Int) (A : Option Addr) (n c : Nat) (hl : ¬ canLoad a n) :
    Calls Try.prog 18 #[P, .int .i64 a, .slice A n c] w fun e w' => e = .returned (.bool false) ∧ w = w' := by
  unfold canLoad at hl
  by_cases h0 : a < 0
  · clear hl
    go_enter Try.func18, Try.ntmps18
    go_wp2
    go_ret
    exact ⟨rfl, rfl⟩
  · have hp : 0 ≤ a := by omega
    by_cases h1 : a % 2 = 0
    · have hz : (a % 2 != 0) = false := by rw [h1]; rfl
      by_cases h2 : 131072 < a
      · clear hl h1
        go_enter Try.func18, Try.ntmps18
        go_wp2
        go_ret
        exact ⟨rfl, rfl⟩
      · have h3 : (131072 - a) / 2 < (n : Int) := by omega
        clear hl h1
        go_enter Try.func18, Try.ntmps18
        go_wp2
        go_ret
        exact ⟨rfl, rfl⟩
    · have hz : (a % 2 != 0) = true := by rw [bne_iff_ne]; exact h1
      clear hl h1
      go_enter Try.func18, Try.ntmps18
      go_wp2
      go_ret
      exact ⟨rfl, rfl⟩
end Go.Proofs.Ytpihjhfaeloapaa
namespace Go.Proofs.Ytpihjhfaeloapaa
open Go.RowKit On
theorem rNew_c (w : World) : Calls Try.prog 15 #[] w fun e w' => ∃ p g, e = .returned (.pointer (some ⟨p, 0, none⟩)) ∧ Mm w' 78 p g (fun _ => 0) ∧ w.heap.size ≤ p ∧ w.heap.size ≤ g ∧ Below w.heap.size w w' := by
  have hmk := make_mem
  go_enter Try.func15, Try.ntmps15
  go_wp2
  go_ret
  refine ⟨_, _, rfl, ⟨?_, ?_⟩, by omega, Nat.le_refl _, ((Below.refl _ _).alloc (Nat.le_refl _) _).alloc (by simp) _⟩
  · have := Blk.new (w.alloc (.cells (madeCells #[.int .u8 0] MT) 5)) 78 #[.slice (some ⟨w.heap.size, 0, none⟩) MT MT]
    rwa [World.size_alloc] at this
  · exact (Bytes.made w).only (S := fun _ => False) ((Only.refl _ _).alloc _) (fun h => h)
theorem rword_yes (w : World) (p g : Nat) (f : Nat → Int) (a : Int) (h : Mm w 78 p g f) (h0 : 0 ≤ a) (h1 : a % 4 = 0) (h2 : a < 262144) :
    Calls Try.prog 26 #[.pointer (some ⟨p, 0, none⟩), .int .i64 a] w fun e w' => e = .returned (.tuple #[.int .u32 (getB f a.toNat 4), .bool true]) ∧ ∃ q, w' = w.drewN q := by
  obtain ⟨a, rfl⟩ := Int.eq_ofNat_of_zero_le h0
  rw [Int.toNat_natCast]
  have hm := mt
  have hc := h.1.cell 0
  simp at hc
  have d0 := h.2.cell (i := a) (by omega)
  have d1 := h.2.cell (i := a + 1) (by omega)
  have d2 := h.2.cell (i := a + 2) (by omega)
  have d3 := h.2.cell (i := a + 3) (by omega)
  have r0 := h.2.range a
  have r1 := h.2.range (a + 1)
  have r2 := h.2.range (a + 2)
  have r3 := h.2.range (a + 3)
  have HG : Hid (getB f a 4 = f a + f (a + 1) * 256 + f (a + 2) * 65536 + f (a + 3) * 16777216) := by unfold Hid getB getB getB getB getB; simp
  rw [HG.out]
  clear HG
  generalize f a = x0 at *
  generalize f (a + 1) = x1 at *
  generalize f (a + 2) = x2 at *
  generalize f (a + 3) = x3 at *
  have hz : ((a : Int) % 4 != 0) = false := by rw [h1]; rfl
  have hg : ¬ 262144 ≤ (a : Int) := by omega
  have hm3 : (a : Int) + 3 < (MT : Int) := by omega
  have hneg : ¬ (a : Int) < 0 := by omega
  have hmb : (MT : Int) ≤ 1000000 := by omega
  clear hm h1 h2 h h0
  go_enter Try.func26, Try.ntmps26
  go_wp2_with fail
  go_quiet (fail)
  go_wp2
  go_ret2
  exact ⟨rfl, nq, rfl⟩
theorem rword_no (w : World) (P : Value) (a : Int) (h : a < 0 ∨ a % 4 ≠ 0 ∨ 262144 ≤ a) :
    Calls Try.prog 26 #[P, .int .i64 a] w fun e w' => e = .returned (.tuple #[.int .u32 0, .bool false]) ∧ w = w' := by
  by_cases h0 : a < 0
  · clear h
    go_enter Try.func26, Try.ntmps26
    go_wp2
    go_ret2
    exact ⟨rfl, rfl⟩
  · by_cases h1 : a % 4 = 0
    · have hz : (a % 4 != 0) = false := by rw [h1]; rfl
      have hg : 262144 ≤ a := by omega
      clear h h1
      have h0 : 0 ≤ a := by omega
      go_enter Try.func26, Try.ntmps26
      go_wp2
      go_ret2
      exact ⟨rfl, rfl⟩
    · have hz : (a % 4 != 0) = true := by rw [bne_iff_ne]; exact h1
      clear h h1
      have h0 : 0 ≤ a := by omega
      go_enter Try.func26, Try.ntmps26
      go_wp2
      go_ret2
      exact ⟨rfl, rfl⟩
theorem rhalf_no (w : World) (P : Value) (a : Int) (h : a < 0 ∨ a % 2 ≠ 0 ∨ 131072 ≤ a) :
    Calls Try.prog 41 #[P, .int .i64 a] w fun e w' => e = .returned (.tuple #[.int .u16 0, .bool false]) ∧ w = w' := by
  by_cases h0 : a < 0
  · clear h
    go_enter Try.func41, Try.ntmps41
    go_wp2
    go_ret2
    exact ⟨rfl, rfl⟩
  · by_cases h1 : a % 2 = 0
    · have hz : (a % 2 != 0) = false := by rw [h1]; rfl
      have hg : 131072 ≤ a := by omega
      clear h h1
      have h0 : 0 ≤ a := by omega
      go_enter Try.func41, Try.ntmps41
      go_wp2
      go_ret2
      exact ⟨rfl, rfl⟩
    · have hz : (a % 2 != 0) = true := by rw [bne_iff_ne]; exact h1
      clear h h1
      have h0 : 0 ≤ a := by omega
      go_enter Try.func41, Try.ntmps41
      go_wp2
      go_ret2
      exact ⟨rfl, rfl⟩
theorem rbyte_yes (w : World) (p g : Nat) (f : Nat → Int) (a : Int) (h : Mm w 78 p g f) (h0 : 0 ≤ a) (h2 : a < 262144) :
    Calls Try.prog 47 #[.pointer (some ⟨p, 0, none⟩), .int .i64 a] w fun e w' => e = .returned (.tuple #[.int .u8 (f a.toNat), .bool true]) ∧ w = w' := by
  obtain ⟨a, rfl⟩ := Int.eq_ofNat_of_zero_le h0
  rw [Int.toNat_natCast]
  have hc := h.1.cell 0
  simp at hc
  have hd := h.2.cell (i := a) (by have := mt; omega)
  have hg : ¬ 262144 ≤ (a : Int) := by omega
  have hn : ¬ (a : Int) < 0 := by omega
  have hm : (a : Int) < (MT : Int) := by rw [mt]; omega
  clear h h2 h0
  go_enter Try.func47, Try.ntmps47
  go_wp2
  go_ret2
  exact ⟨rfl, rfl⟩
theorem rbyte_no (w : World) (P : Value) (a : Int) (h : a < 0 ∨ 262144 ≤ a) :
    Calls Try.prog 47 #[P, .int .i64 a] w fun e w' => e = .returned (.tuple #[.int .u8 0, .bool false]) ∧ w = w' := by
  by_cases h0 : a < 0
  · clear h
    go_enter Try.func47, Try.ntmps47
    go_wp2
    go_ret2
    exact ⟨rfl, rfl⟩
  · have hg : 262144 ≤ a := by omega
    clear h
    go_enter Try.func47, Try.ntmps47
    go_wp2
    go_ret2
    exact ⟨rfl, rfl⟩
theorem rsetword_no (w : World) (P : Value) (a v : Int) (h : a < 131072 ∨ a % 4 ≠ 0 ∨ 262144 ≤ a) :
    Calls Try.prog 49 #[P, .int .i64 a, .int .u32 v] w fun e w' => e = .returned (.bool false) ∧ w = w' := by
  by_cases h0 : a < 131072
  · clear h
    go_enter Try.func49, Try.ntmps49
    go_wp2
    go_ret
    exact ⟨rfl, rfl⟩
  · have hp : 0 ≤ a := by omega
    by_cases h1 : a % 4 = 0
    · have hz : (a % 4 != 0) = false := by rw [h1]; rfl
      have hg : 262144 ≤ a := by omega
      clear h h1
      go_enter Try.func49, Try.ntmps49
      go_wp2
      go_ret
      exact ⟨rfl, rfl⟩
    · have hz : (a % 4 != 0) = true := by rw [bne_iff_ne]; exact h1
      clear h h1
      go_enter Try.func49, Try.ntmps49
      go_wp2
      go_ret
      exact ⟨rfl, rfl⟩
theorem rsetbyte_yes (w : World) (p g : Nat) (f : Nat → Int) (a v : Int) (h : Mm w 78 p g f) (h0 : 131072 ≤ a) (h2 : a < 262144) (hv : 0 ≤ v ∧ v ≤ 255) :
    Calls Try.prog 48 #[.pointer (some ⟨p, 0, none⟩), .int .i64 a, .int .u8 v] w fun e w' => e = .returned (.bool true) ∧ Mm w' 78 p g (upd f a.toNat v) ∧ Only (fun k => k = g) w w' := by
  obtain ⟨a, rfl⟩ := Int.eq_ofNat_of_zero_le (show 0 ≤ a by omega)
  rw [Int.toNat_natCast]
  have hpg : p ≠ g := by obtain ⟨h1, cs, h2, _⟩ := h; exact h1.ne h2 (by decide)
  have HPG := Lib.hid hpg; clear hpg
  have hc := h.1.cell 0
  simp at hc
  have hd := h.2.cell (i := a) (by have := mt; omega)
  have hf := h.2.frozen a
  have hg : ¬ 262144 ≤ (a : Int) := by omega
  have hn : ¬ (a : Int) < 131072 := by omega
  have hm : (a : Int) < (MT : Int) := by rw [mt]; omega
  have H := Lib.hid h; clear h h0 h2
  have HV := Lib.hid hv; clear hv
  generalize f a = x at *
  go_enter Try.func48, Try.ntmps48
  go_wp2
  go_ret
  exact ⟨rfl, ⟨H.out.1.far (p := ⟨g, a, none⟩) HPG.out _, H.out.2.set a HV.out⟩, Only.setCell (S := fun k => k = g) (Only.refl _ w) (p := ⟨g, a, none⟩) (.inl rfl) _⟩
theorem rsetbyte_no (w : World) (P : Value) (a v : Int) (h : a < 131072 ∨ 262144 ≤ a) :
    Calls Try.prog 48 #[P, .int .i64 a, .int .u8 v] w fun e w' => e = .returned (.bool false) ∧ w = w' := by
  by_cases h0 : a < 131072
  · clear h
    go_enter Try.func48, Try.ntmps48
    go_wp2
    go_ret
    exact ⟨rfl, rfl⟩
  · have hg : 262144 ≤ a := by omega
    clear h
    go_enter Try.func48, Try.ntmps48
    go_wp2
    go_ret
    exact ⟨rfl, rfl⟩
theorem rload_no (w : World) (P : Value) (a : Int) (A : Option Addr) (n c : Nat) (hl : ¬ canLoad a n) :
    Calls Try.prog 19 #[P, .int .i64 a, .slice A n c] w fun e w' => e = .returned (.bool false) ∧ w = w' := by
  unfold canLoad at hl
  by_cases h0 : a < 0
  · clear hl
    go_enter Try.func19, Try.ntmps19
    go_wp2
    go_ret
    exact ⟨rfl, rfl⟩
  · have hp : 0 ≤ a := by omega
    by_cases h1 : a % 2 = 0
    · have hz : (a % 2 != 0) = false := by rw [h1]; rfl
      by_cases h2 : 131072 < a
      · clear hl h1
        go_enter Try.func19, Try.ntmps19
        go_wp2
        go_ret
        exact ⟨rfl, rfl⟩
      · have h3 : (131072 - a) / 2 < (n : Int) := by omega
        clear hl h1
        go_enter Try.func19, Try.ntmps19
        go_wp2
        go_ret
        exact ⟨rfl, rfl⟩
    · have hz : (a % 2 != 0) = true := by rw [bne_iff_ne]; exact h1
      clear hl h1
      go_enter Try.func19, Try.ntmps19
      go_wp2
      go_ret
      exact ⟨rfl, rfl⟩
theorem rhalf_yes (w : World) (p g : Nat) (f : Nat → Int) (a : Int) (h : Mm w 78 p g f) (h0 : 0 ≤ a) (h1 : a % 2 = 0) (h2 : a < 131072) :
    Calls Try.prog 41 #[.pointer (some ⟨p, 0, none⟩), .int .i64 a] w fun e w' => e = .returned (.tuple #[.int .u16 (getB f a.toNat 2), .bool true]) ∧ ∃ q, w' = w.drewN q := by
  obtain ⟨a, rfl⟩ := Int.eq_ofNat_of_zero_le h0
  rw [Int.toNat_natCast]
  have hm := mt
  have hc := h.1.cell 0
  simp at hc
  have d0 := h.2.cell (i := a) (by omega)
  have d1 := h.2.cell (i := a + 1) (by omega)
  have r0 := h.2.range a
  have r1 := h.2.range (a + 1)
  have HG : Hid (getB f a 2 = f a + f (a + 1) * 256) := by unfold Hid getB getB getB; simp
  rw [HG.out]
  clear HG
  generalize f a = x0 at *
  generalize f (a + 1) = x1 at *
  have hz : ((a : Int) % 2 != 0) = false := by rw [h1]; rfl
  have hg : ¬ 131072 ≤ (a : Int) := by omega
  have hm3 : (a : Int) + 1 < (MT : Int) := by omega
  have hneg : ¬ (a : Int) < 0 := by omega
  have hmb : (MT : Int) ≤ 1000000 := by omega
  clear hm h1 h2 h h0
  go_enter Try.func41, Try.ntmps41
  go_wp2_with fail
  go_quiet (fail)
  go_wp2
  go_ret2
  exact ⟨rfl, nq, rfl⟩
set_option maxHeartbeats 400000 in
theorem rsetword_yes (w : World) (p g : Nat) (f : Nat → Int) (a v : Int) (h : Mm w 78 p g f) (h0 : 131072 ≤ a) (h1 : a % 4 = 0) (h2 : a < 262144) :
    Calls Try.prog 49 #[.pointer (some ⟨p, 0, none⟩), .int .i64 a, .int .u32 v] w fun e w' => e = .returned (.bool true) ∧ Mm w' 78 p g (setB f a.toNat 4 v) ∧ Only (fun k => k = g) w w' := by
  obtain ⟨a, rfl⟩ := Int.eq_ofNat_of_zero_le (show 0 ≤ a by omega)
  rw [Int.toNat_natCast]
  have hpg : p ≠ g := by obtain ⟨h1, cs, h2, _⟩ := h; exact h1.ne h2 (by decide)
  have HPG := Lib.hid hpg; clear hpg
  have hz : ((a : Int) % 4 != 0) = false := by rw [h1]; rfl
  have hg : ¬ 262144 ≤ (a : Int) := by omega
  have hl : ¬ (a : Int) < 131072 := by omega
  have hp : 0 ≤ (a : Int) := by omega
  have hb : (a : Int) + 4 ≤ (MT : Int) := by rw [mt]; omega
  have hM : (MT : Int) ≤ 1000000 := by rw [mt]; omega
  have H := Lib.hid h; clear h h1 h2 h0
  go_enter Try.func49, Try.ntmps49
  go_wp2_with fail
  go_loopw [7] (fun i wr => ∃ k : Nat, k ≤ 4 ∧ i = .int .i64 k ∧ Mm wr 78 p g (setB f a k v) ∧ Only (fun k => k = g) w wr) (fun i _ => 4 - (intOf i).toNat)
  case atStart => exact ⟨0, Nat.zero_le _, rfl, by rw [setB_zero]; exact H.out, Only.refl _ _⟩
  case round =>
    obtain ⟨k, hk, rfl, hm, hO⟩ := hrel
    have HM := Lib.hid hm; have HO := Lib.hid hO; clear hm hO
    by_cases hlt : (k : Int) < 4
    · have hc := HM.out.1.cell 0
      simp at hc
      have hd := HM.out.2.cell (i := a + k) (by omega)
      have hf := HM.out.2.frozen (a + k)
      have hak : (a : Int) + k < (MT : Int) := by omega
      obtain ⟨x, hx⟩ : ∃ x, setB f a k v (a + k) = x := ⟨_, rfl⟩
      clear hg hl hz hb hk
      rw [hx] at hd; clear hx
      go_wp2
      have hm2 : Mm (wr.setCell ⟨g, a + k, none⟩ (.int .u8 (byteAt v k)))  78 p g (setB f a (k + 1) v) :=
        ⟨(HM.out.1.far (p := ⟨g, a + k, none⟩) HPG.out _), (HM.out.2.set (a + k) (byteAt_range v k)).congr (setB_succ f a k v)⟩
      have ho2 : Only (fun j => j = g) w (wr.setCell ⟨g, a + k, none⟩ (.int .u8 (byteAt v k)))  := (HO.out.setCell (.inl rfl) _)
      go_roundw
      case rel => exact ⟨k + 1, by omega, by go_num, hm2, ho2⟩
      case measure => simp [intOf]; omega
    · have : k = 4 := by omega
      subst this
      go_wp2
      go_ret
      exact ⟨rfl, HM.out, HO.out⟩
set_option maxHeartbeats 1000000 in
theorem rload_yes (w : World) (p g : Nat) (f : Nat → Int) (a : Int) (A : Option Addr) (n c : Nat) (hs : List Int) (h : Mm w 78 p g f) (hh : Hs w A n hs) (hd : ∀ b o s, A = some ⟨b, o, s⟩ → 0 < n → b ≠ g) (hl : canLoad a n) :
    Calls Try.prog 19 #[.pointer (some ⟨p, 0, none⟩), .int .i64 a, .slice A n c] w fun e w' => e = .returned (.bool true) ∧ Mm w' 78 p g (loadB f a.toNat hs n) ∧ Only (fun k => k = g) w w' := by
  obtain ⟨h0, h1, h2, h3⟩ := hl
  obtain ⟨a, rfl⟩ := Int.eq_ofNat_of_zero_le h0
  rw [Int.toNat_natCast]
  have hpg : p ≠ g := by obtain ⟨h1, cs, h2, _⟩ := h; exact h1.ne h2 (by decide)
  have HPG := Lib.hid hpg; clear hpg
  have hz : ((a : Int) % 2 != 0) = false := by rw [h1]; rfl
  have h2' : ¬ 131072 < (a : Int) := by omega
  have h3' : ¬ (131072 - (a : Int)) / 2 < (n : Int) := by omega
  have hn : (n : Int) ≤ 65536 := by omega
  have hfit : (a : Int) + 2 * n ≤ 131072 := by omega
  have hneg : ¬ (a : Int) < 0 := by omega
  have hM : (MT : Int) ≤ 1000000 := by rw [mt]; omega
  have H := Lib.hid h; have HH := Lib.hid hh; have HD := Lib.hid hd
  have HF := Lib.hid hfit
  clear h hh hd h1 h2 h3 h0 hfit
  go_enter Try.func19, Try.ntmps19
  go_wp2_with fail
  go_loopw [7] (fun i wr => ∃ k : Nat, k ≤ n ∧ i = .int .i64 k ∧ Mm wr 78 p g (loadB f a hs k) ∧ Only (fun k => k = g) w wr) (fun i _ => n - (intOf i).toNat)
  case atStart => exact ⟨0, Nat.zero_le _, rfl, H.out, Only.refl _ _⟩
  case round =>
    obtain ⟨k, hk, rfl, hm, hO⟩ := hrel
    have HM := Lib.hid hm; have HO := Lib.hid hO; clear hm hO
    by_cases hlt : k < n
    · cases A with
      | none => have := HH.out.none_ rfl; omega
      | some ad =>
        obtain ⟨b, o, s⟩ := ad
        obtain ⟨hc, rfl, hb⟩ := HH.out.cell b o s k rfl hlt
        have hbg := HD.out b o none rfl (by omega)
        rw [← HO.out.cell (p := ⟨b, o + k, none⟩) hb hbg] at hc
        have hr := getD_half HH.out.half k
        have HS : Hid (loadB f a hs (k + 1) = setB (loadB f a hs k) (a + 2 * k) 2 (hs.getD k 0)) := rfl
        generalize hs.getD k 0 = x at *
        clear hb
        have hp := HM.out.1.cell 0
        simp at hp
        have hmt := mt
        have hft := HF.out
        have d0 := HM.out.2.cell (i := a + 2 * k) (by omega)
        have f0 := HM.out.2.frozen (a + 2 * k)
        have d1 := HM.out.2.cell (i := a + 2 * k + 1) (by omega)
        have f1 := HM.out.2.frozen (a + 2 * k + 1)
        have hak : (a : Int) + 2 * k + 1 < (MT : Int) := by omega
        obtain ⟨y0, hy⟩ : ∃ x, loadB f a hs k (a + 2 * k) = x := ⟨_, rfl⟩
        rw [hy] at d0; clear hy
        obtain ⟨y1, hy⟩ : ∃ x, loadB f a hs k (a + 2 * k + 1) = x := ⟨_, rfl⟩
        rw [hy] at d1; clear hy
        clear hmt hft
        have HE : Hid (∀ F : Nat → Int, upd (upd F (a + 2 * k) (x % 256)) (a + 2 * k + 1) (x / 256) = setB F (a + 2 * k) 2 x) := by
          intro F
          rw [← setB_succ, ← setB_succ, setB_zero]
          have h1 : byteAt x 0 = x % 256 := by unfold byteAt; simp
          have h2 : byteAt x 1 = x / 256 := by unfold byteAt; simp; omega
          rw [h1, h2]; rfl
        have hpg2 := HPG.out
        go_wp2_with fail
        go_region
        go_wp2_with fail
        go_region
        go_wp2
        have hm2 : Mm (((wr.setCell ⟨g, a + 2 * k, none⟩ (.int .u8 (x % 256))).setCell ⟨g, a + 2 * k + 1, none⟩ (.int .u8 (x / 256))).drew.drew) 78 p g (loadB f a hs (k + 1)) := by
          rw [HS.out, ← HE.out]
          exact ⟨((HM.out.1.far (p := ⟨g, a + 2 * k, none⟩) HPG.out _).far (p := ⟨g, a + 2 * k + 1, none⟩) HPG.out _).drew.drew, (HM.out.2.set (a + 2 * k) (by omega)).set (a + 2 * k + 1) (by omega)⟩
        have ho2 : Only (fun j => j = g) w (((wr.setCell ⟨g, a + 2 * k, none⟩ (.int .u8 (x % 256))).setCell ⟨g, a + 2 * k + 1, none⟩ (.int .u8 (x / 256))).drew.drew) := ((HO.out.setCell (.inl rfl) _).setCell (.inl rfl) _).drew.drew
        go_roundw
        case rel => exact ⟨k + 1, by omega, by go_num, hm2, ho2⟩
        case measure => simp [intOf]; omega
    · have : k = n := by omega
      subst this
      go_wp2
      go_ret
      exact ⟨rfl, HM.out, HO.out⟩
end Go.Proofs.Ytpihjhfaeloapaa
