/- Package mem: what a memory is; New, put, get. -/
import Derived.Test.YtmbaoaoglhonfaaPick
import Derived.Laws.BitsLemmas
import Derived.Laws.BitsAllLaws
import Derived.RegionTactic
import Derived.ChangeAlike
import Derived.Laws.MakeOwn
namespace Go.Proofs.Ytmbaoaoglhonfaa
open Go.RowKit On
def MT : Nat := 262144
/-- bytes in a block -/
def Bytes (w : World) (g : Nat) (f : Nat → Int) : Prop := ∃ cs, Blk w g 5 cs ∧ cs.size = MT ∧ (∀ i, i < MT → cs[i]? = some (.int .u8 (f i))) ∧ ∀ i, 0 ≤ f i ∧ f i ≤ 255
/-- a memory of type t at block p, its bytes in block g -/
def Mm (w : World) (t : TypeId) (p g : Nat) (f : Nat → Int) : Prop := Blk w p t #[.slice (some ⟨g, 0, none⟩) MT MT] ∧ Bytes w g f
def byteAt (v : Int) (i : Nat) : Int := v / 2 ^ (8 * i) % 256
/-- so many bytes of a number, written from a place on -/
def setB (f : Nat → Int) (a k : Nat) (v : Int) : Nat → Int := fun j => if a ≤ j ∧ j < a + k then byteAt v (j - a) else f j
/-- a number of so many bytes -/
def getB (f : Nat → Int) (a : Nat) : Nat → Int
  | 0 => 0
  | n + 1 => getB f a n + f (a + n) * 2 ^ (8 * n)
theorem Bytes.cell {w : World} {g : Nat} {f : Nat → Int} (h : Bytes w g f) {i : Nat} (hi : i < MT) : w.cell? ⟨g, i, none⟩ = some (.int .u8 (f i)) := by
  obtain ⟨cs, h1, _, h3, _⟩ := h; rw [h1.cell]; exact h3 i hi
theorem Bytes.range {w : World} {g : Nat} {f : Nat → Int} (h : Bytes w g f) (i : Nat) : 0 ≤ f i ∧ f i ≤ 255 := by
  obtain ⟨cs, _, _, _, h4⟩ := h; exact h4 i
theorem Bytes.frozen {w : World} {g : Nat} {f : Nat → Int} (h : Bytes w g f) (i : Nat) : w.frozen? ⟨g, i, none⟩ = false := by
  obtain ⟨cs, h1, _⟩ := h; exact h1.frozen i
def upd (f : Nat → Int) (i : Nat) (v : Int) : Nat → Int := fun j => if j = i then v else f j
theorem upd_self (f : Nat → Int) (i : Nat) (v : Int) : upd f i v i = v := if_pos rfl
theorem upd_ne (f : Nat → Int) {i j : Nat} (v : Int) (h : j ≠ i) : upd f i v j = f j := if_neg h
theorem Bytes.set {w : World} {g : Nat} {f : Nat → Int} (h : Bytes w g f) (i : Nat) {v : Int} (hv : 0 ≤ v ∧ v ≤ 255) : Bytes (w.setCell ⟨g, i, none⟩ (.int .u8 v)) g (upd f i v) := by
  obtain ⟨cs, h1, h2, h3, h4⟩ := h
  refine ⟨_, h1.set i _, by simpa using h2, fun j hj => ?_, fun j => ?_⟩
  · by_cases e : j = i
    · subst e; rw [Array.getElem?_setIfInBounds_self_of_lt (by omega), upd_self]
    · rw [Array.getElem?_setIfInBounds_ne (by omega), upd_ne _ _ e]; exact h3 j hj
  · by_cases e : j = i
    · subst e; rw [upd_self]; exact hv
    · rw [upd_ne _ _ e]; exact h4 j
theorem Bytes.congr {w : World} {g : Nat} {f k : Nat → Int} (h : Bytes w g f) (e : f = k) : Bytes w g k := e ▸ h
theorem Bytes.only {w w' : World} {g : Nat} {f : Nat → Int} {S : Nat → Prop} (h : Bytes w g f) (hO : Only S w w') (hn : ¬ S g) : Bytes w' g f := by
  obtain ⟨cs, h1, h2⟩ := h; exact ⟨cs, h1.only hO hn, h2⟩
theorem setB_zero (f : Nat → Int) (a : Nat) (v : Int) : setB f a 0 v = f := by funext j; unfold setB; rw [if_neg (by omega)]
theorem setB_succ (f : Nat → Int) (a k : Nat) (v : Int) : upd (setB f a k v) (a + k) (byteAt v k) = setB f a (k + 1) v := by
  funext j; unfold upd setB
  by_cases e : j = a + k
  · subst e; rw [if_pos rfl, if_pos (by omega)]; congr 1; omega
  · rw [if_neg e]
    by_cases h : a ≤ j ∧ j < a + k
    · rw [if_pos h, if_pos (by omega)]
    · rw [if_neg h, if_neg (by omega)]
theorem byteAt_range (v : Int) (i : Nat) : 0 ≤ byteAt v i ∧ byteAt v i ≤ 255 := by unfold byteAt; omega
theorem getB_range {f : Nat → Int} (hf : ∀ i, 0 ≤ f i ∧ f i ≤ 255) (a n : Nat) : 0 ≤ getB f a n ∧ getB f a n < 2 ^ (8 * n) := by
  induction n with
  | zero => simp [getB]
  | succ n ih =>
    have h := hf (a + n)
    have hp : (0 : Int) < 2 ^ (8 * n) := Int.pow_pos (by omega)
    have e : (2 : Int) ^ (8 * (n + 1)) = 256 * 2 ^ (8 * n) := by rw [show 8 * (n + 1) = 8 + 8 * n by omega, Int.pow_add]; rfl
    show 0 ≤ getB f a n + f (a + n) * 2 ^ (8 * n) ∧ getB f a n + f (a + n) * 2 ^ (8 * n) < _
    rw [e]
    have h1 : 0 ≤ f (a + n) * 2 ^ (8 * n) := Int.mul_nonneg h.1 (Int.le_of_lt hp)
    have h2 : f (a + n) * 2 ^ (8 * n) ≤ 255 * 2 ^ (8 * n) := Int.mul_le_mul_of_nonneg_right h.2 (Int.le_of_lt hp)
    omega
theorem wraps_u32 (n : Int) (h₀ : 0 ≤ n) (h₁ : n < 2 ^ 32) : IntKind.u32.wrap n = n := by rw [IntKind.wrap_u32]; omega
theorem bits_comm_or (k : IntKind) (x y : Int) : bits .or k x y = bits .or k y x := by unfold bits; simp only [BitVec.or_comm]
theorem get_step {f : Nat → Int} (hf : ∀ i, 0 ≤ f i ∧ f i ≤ 255) (a n : Nat) (hn : n < 4) :
    bits .or .u32 (getB f a n) (f (a + n) * 2 ^ (8 * n) % 4294967296) = getB f a (n + 1) := by
  have h := hf (a + n)
  have hr := getB_range hf a n
  have hr2 := getB_range hf a (n + 1)
  have hp : (0 : Int) < 2 ^ (8 * n) := Int.pow_pos (by omega)
  have hp4 : (2 : Int) ^ (8 * (n + 1)) ≤ 2 ^ 32 := by
    have := Nat.pow_le_pow_right (show 0 < 2 by omega) (show 8 * (n + 1) ≤ 32 by omega)
    exact_mod_cast this
  have h1 : 0 ≤ f (a + n) * 2 ^ (8 * n) := Int.mul_nonneg h.1 (Int.le_of_lt hp)
  have hs : getB f a (n + 1) = getB f a n + f (a + n) * 2 ^ (8 * n) := rfl
  have hlt : f (a + n) * 2 ^ (8 * n) < 2 ^ 32 := by omega
  rw [Int.emod_eq_of_lt h1 (by omega), bits_comm_or, bits_join .u32 32 (by decide) wraps_u32 (8 * n) _ _ h1 (by simp) hlt hr.1 hr.2 (by omega), hs]
  omega
theorem info_byte : (Try.prog.info? 5).map (fun i => (i.zero, i.size, i.bytes)) = some (some (.int .u8 0), 1, 1) := by kernel_rfl
theorem make_mem : ∀ w : World, (Instr.makeSlice 66 (.int .i64 262144) (.int .i64 262144)).run Try.prog w = .ok (.slice (some ⟨w.heap.size, 0, none⟩) MT MT) (w.alloc (.cells (madeCells #[.int .u8 0] MT) 5)) := by
  intro w
  obtain ⟨i0, hi0, hz0, hz1, hz2⟩ := info_parts info_byte
  have := run_make (P := Try.prog) w 66 5 i0 _ Try.underlying66 hi0 hz0 .i64 .i64 (MT : Int) (MT : Int) (by unfold MT; omega) (by omega) (by rw [hz2]; unfold MT; omega) (by unfold MT; omega)
  simp only [Int.toNat_natCast, hz1, Nat.mul_one, Value.cells] at this
  exact this
theorem Bytes.made (w : World) : Bytes (w.alloc (.cells (madeCells #[.int .u8 0] MT) 5)) w.heap.size (fun _ => 0) := by
  refine ⟨_, Blk.new _ _ _, ?_, ?_, fun _ => ⟨Int.le_refl _, by show (0 : Int) ≤ 255; omega⟩⟩
  · unfold madeCells; simp
  · intro i hi
    rw [← Array.getElem?_toList, toList_madeCells_one, List.getElem?_replicate, if_pos hi]
theorem memNew_c (w : World) : Calls Try.prog 20 #[] w fun e w' => ∃ p g, e = .returned (.pointer (some ⟨p, 0, none⟩)) ∧ Mm w' 68 p g (fun _ => 0) ∧ w.heap.size ≤ p ∧ w.heap.size ≤ g ∧ Below w.heap.size w w' := by
  have hmk := make_mem
  go_enter Try.func20, Try.ntmps20
  go_wp2
  go_ret
  refine ⟨_, _, rfl, ⟨?_, ?_⟩, by omega, Nat.le_refl _, ((Below.refl _ _).alloc (Nat.le_refl _) _).alloc (by simp) _⟩
  · have := Blk.new (w.alloc (.cells (madeCells #[.int .u8 0] MT) 5)) 68 #[.slice (some ⟨w.heap.size, 0, none⟩) MT MT]
    rwa [World.size_alloc] at this
  · exact (Bytes.made w).only (S := fun _ => False) ((Only.refl _ _).alloc _) (fun h => h)
theorem put_eq (v : Int) (k : Nat) : v / 2 ^ (8 * (k : Int)).toNat % 256 = byteAt v k := by
  unfold byteAt; rw [show (8 * (k : Int)).toNat = 8 * k by omega]
set_option maxHeartbeats 400000 in
theorem put_c (w : World) (p g : Nat) (f : Nat → Int) (a : Int) (n : Nat) (v : Int) (h : Mm w 68 p g f) (hn : n ≤ 4) (ha : 0 ≤ a) (han : a + n ≤ (MT : Int)) :
    Calls Try.prog 37 #[.pointer (some ⟨p, 0, none⟩), .int .i64 a, .int .i64 (n : Int), .int .u32 v] w fun e w' => e = .returned (.tuple #[]) ∧ Mm w' 68 p g (setB f a.toNat n v) ∧ Only (fun k => k = g) w w' := by
  obtain ⟨a, rfl⟩ := Int.eq_ofNat_of_zero_le ha
  rw [Int.toNat_natCast]
  have hM : (MT : Int) ≤ 1000000 := by unfold MT; omega
  have hpg : p ≠ g := by obtain ⟨h1, cs, h2, _⟩ := h; exact h1.ne h2 (by decide)
  have HPG := Lib.hid hpg; clear hpg
  have H := Lib.hid h; clear h ha
  go_enter Try.func37, Try.ntmps37
  go_wp2_with fail
  go_loopw [10] (fun i wr => ∃ k : Nat, k ≤ n ∧ i = .int .i64 k ∧ Mm wr 68 p g (setB f a k v) ∧ Only (fun k => k = g) w wr) (fun i _ => n - (intOf i).toNat)
  case atStart => exact ⟨0, Nat.zero_le _, rfl, by rw [setB_zero]; exact H.out, Only.refl _ _⟩
  case round =>
    obtain ⟨k, hk, rfl, hm, hO⟩ := hrel
    have HM := Lib.hid hm; have HO := Lib.hid hO; clear hm hO
    by_cases hlt : k < n
    · have hc := HM.out.1.cell 0
      simp at hc
      have hd := HM.out.2.cell (i := a + k) (by omega)
      have hf := HM.out.2.frozen (a + k)
      have hak : (a : Int) + k < (MT : Int) := by omega
      obtain ⟨x, hx⟩ : ∃ x, setB f a k v (a + k) = x := ⟨_, rfl⟩
      rw [hx] at hd; clear hx
      have hk3 : k ≤ 3 := by omega
      go_wp2_with fail
      go_region
      go_wp2
      have hm2 : Mm ((wr.setCell ⟨g, a + k, none⟩ (.int .u8 (byteAt v k))).drew) 68 p g (setB f a (k + 1) v) :=
        ⟨(HM.out.1.far (p := ⟨g, a + k, none⟩) HPG.out _).drew, (HM.out.2.set (a + k) (byteAt_range v k)).congr (setB_succ f a k v)⟩
      have ho2 : Only (fun j => j = g) w ((wr.setCell ⟨g, a + k, none⟩ (.int .u8 (byteAt v k))).drew) := (HO.out.setCell (.inl rfl) _).drew
      go_roundw
      case rel => exact ⟨k + 1, by omega, by go_num, hm2, ho2⟩
      case measure => simp [intOf]; omega
    · have : k = n := by omega
      subst this
      go_wp2
      go_end0
      exact ⟨rfl, HM.out, HO.out⟩
theorem getB_succ (f : Nat → Int) (a n : Nat) : getB f a (n + 1) = getB f a n + f (a + n) * 2 ^ (8 * n) := rfl
set_option maxHeartbeats 400000 in
theorem get_c (w : World) (p g : Nat) (f : Nat → Int) (a : Int) (n : Nat) (h : Mm w 68 p g f) (hn : n ≤ 4) (ha : 0 ≤ a) (han : a + n ≤ (MT : Int)) :
    Calls Try.prog 38 #[.pointer (some ⟨p, 0, none⟩), .int .i64 a, .int .i64 (n : Int)] w fun e w' => e = .returned (.int .u32 (getB f a.toNat n)) ∧ w = w' := by
  obtain ⟨a, rfl⟩ := Int.eq_ofNat_of_zero_le ha
  rw [Int.toNat_natCast]
  have hM : (MT : Int) ≤ 1000000 := by unfold MT; omega
  have hc := h.1.cell 0
  simp at hc
  have H := Lib.hid h; clear h ha
  go_enter Try.func38, Try.ntmps38
  go_wp2_with fail
  go_loop [7, 10] (fun s i => ∃ k : Nat, k ≤ n ∧ i = .int .i64 k ∧ s = .int .u32 (getB f a k)) (fun _ i => n - (intOf i).toNat)
  case atStart => exact ⟨0, Nat.zero_le _, rfl, rfl⟩
  case round =>
    obtain ⟨k, hk, rfl, rfl⟩ := hrel
    by_cases hlt : k < n
    · have hd := H.out.2.cell (i := a + k) (by omega)
      have hak : (a : Int) + k < (MT : Int) := by omega
      have hk3 : k ≤ 3 := by omega
      have HS : Hid (bits .or .u32 (getB f a k) (f (a + k) * 2 ^ (8 * k) % 4294967296) = getB f a (k + 1)) := get_step H.out.2.range a k (by omega)
      have hb0 : 0 ≤ f (a + k) ∧ f (a + k) ≤ 255 := H.out.2.range _
      generalize f (a + k) = x at *
      go_wp2
      go_round
      case rel => exact ⟨k + 1, by omega, by go_num, by rw [← HS.out]⟩
      case measure => simp [intOf]; omega
    · have : k = n := by omega
      subst this
      go_wp2
      go_ret
      exact ⟨rfl, rfl⟩
end Go.Proofs.Ytmbaoaoglhonfaa
