/- The two memories' answers, whole: one contract for each function, at every address. -/
import Derived.Test.YtmbaoaoglhonfaaMem3
import Derived.Test.YtmbaoaoglhonfaaMemR
import Derived.Test.YtmbaoaoglhonfaaMemBytes
namespace Go.Proofs.Ytmbaoaoglhonfaa
open Go.RowKit On
def okW (a : Int) : Bool := decide (0 ≤ a ∧ a % 4 = 0 ∧ a < 262144)
def okH (a : Int) : Bool := decide (0 ≤ a ∧ a % 2 = 0 ∧ a < 131072)
def okB (a : Int) : Bool := decide (0 ≤ a ∧ a < 262144)
def okSW (a : Int) : Bool := decide (131072 ≤ a ∧ a % 4 = 0 ∧ a < 262144)
def okSB (a : Int) : Bool := decide (131072 ≤ a ∧ a < 262144)
def okL (a : Int) (n : Nat) : Bool := decide (0 ≤ a ∧ a % 2 = 0 ∧ a ≤ 131072 ∧ (n : Int) ≤ (131072 - a) / 2)
def wordV (f : Nat → Int) (a : Int) : Int := if okW a = true then getB f a.toNat 4 else 0
def halfV (f : Nat → Int) (a : Int) : Int := if okH a = true then getB f a.toNat 2 else 0
def byteV (f : Nat → Int) (a : Int) : Int := if okB a = true then f a.toNat else 0
def setWF (f : Nat → Int) (a v : Int) : Nat → Int := if okSW a = true then setB f a.toNat 4 v else f
def setBF (f : Nat → Int) (a v : Int) : Nat → Int := if okSB a = true then upd f a.toNat v else f
def loadF (f : Nat → Int) (a : Int) (hs : List Int) (n : Nat) : Nat → Int := if okL a n = true then loadB f a.toNat hs n else f
theorem dec_no {q : Prop} [Decidable q] (h : ¬ q) : decide q = false := decide_eq_false h
section
variable (w : World) (p g : Nat) (f : Nat → Int) (a v : Int)
theorem word_t (h : Mm w 68 p g f) : Calls Try.prog 25 #[.pointer (some ⟨p, 0, none⟩), .int .i64 a] w fun e w' => e = .returned (.tuple #[.int .u32 (wordV f a), .bool (okW a)]) ∧ w = w' := by
  by_cases c : 0 ≤ a ∧ a % 4 = 0 ∧ a < 262144
  · have e : okW a = true := decide_eq_true c
    rw [wordV, if_pos e, e]; exact word_yes w p g f a h c.1 c.2.1 c.2.2
  · have e : okW a = false := decide_eq_false c
    rw [wordV, e, if_neg (by decide)]; exact word_no w _ a (by omega)
theorem half_t (h : Mm w 68 p g f) : Calls Try.prog 27 #[.pointer (some ⟨p, 0, none⟩), .int .i64 a] w fun e w' => e = .returned (.tuple #[.int .u16 (halfV f a), .bool (okH a)]) ∧ w = w' := by
  by_cases c : 0 ≤ a ∧ a % 2 = 0 ∧ a < 131072
  · have e : okH a = true := decide_eq_true c
    rw [halfV, if_pos e, e]; exact half_yes w p g f a h c.1 c.2.1 c.2.2
  · have e : okH a = false := decide_eq_false c
    rw [halfV, e, if_neg (by decide)]; exact half_no w _ a (by omega)
theorem byte_t (h : Mm w 68 p g f) : Calls Try.prog 23 #[.pointer (some ⟨p, 0, none⟩), .int .i64 a] w fun e w' => e = .returned (.tuple #[.int .u8 (byteV f a), .bool (okB a)]) ∧ w = w' := by
  by_cases c : 0 ≤ a ∧ a < 262144
  · have e : okB a = true := decide_eq_true c
    rw [byteV, if_pos e, e]; exact byte_yes w p g f a h c.1 c.2
  · have e : okB a = false := decide_eq_false c
    rw [byteV, e, if_neg (by decide)]; exact byte_no w _ a (by omega)
theorem setword_t (h : Mm w 68 p g f) : Calls Try.prog 22 #[.pointer (some ⟨p, 0, none⟩), .int .i64 a, .int .u32 v] w fun e w' => e = .returned (.bool (okSW a)) ∧ Mm w' 68 p g (setWF f a v) ∧ Only (fun k => k = g) w w' := by
  by_cases c : 131072 ≤ a ∧ a % 4 = 0 ∧ a < 262144
  · have e : okSW a = true := decide_eq_true c
    rw [setWF, if_pos e, e]; exact setword_yes w p g f a v h c.1 c.2.1 c.2.2
  · have e : okSW a = false := decide_eq_false c
    rw [setWF, e, if_neg (by decide)]; refine (setword_no w _ a v (by omega)).mono ?_
    rintro e w' ⟨rfl, rfl⟩; exact ⟨rfl, h, Only.refl _ _⟩
theorem setbyte_t (h : Mm w 68 p g f) (hv : 0 ≤ v ∧ v ≤ 255) : Calls Try.prog 24 #[.pointer (some ⟨p, 0, none⟩), .int .i64 a, .int .u8 v] w fun e w' => e = .returned (.bool (okSB a)) ∧ Mm w' 68 p g (setBF f a v) ∧ Only (fun k => k = g) w w' := by
  by_cases c : 131072 ≤ a ∧ a < 262144
  · have e : okSB a = true := decide_eq_true c
    rw [setBF, if_pos e, e]; exact setbyte_yes w p g f a v h c.1 c.2 hv
  · have e : okSB a = false := decide_eq_false c
    rw [setBF, e, if_neg (by decide)]; refine (setbyte_no w _ a v (by omega)).mono ?_
    rintro e w' ⟨rfl, rfl⟩; exact ⟨rfl, h, Only.refl _ _⟩
theorem load_t (A : Option Addr) (n c : Nat) (hs : List Int) (h : Mm w 68 p g f) (hh : Hs w A n hs) (hd : ∀ b o s, A = some ⟨b, o, s⟩ → 0 < n → b ≠ g) : Calls Try.prog 26 #[.pointer (some ⟨p, 0, none⟩), .int .i64 a, .slice A n c] w fun e w' => e = .returned (.bool (okL a n)) ∧ Mm w' 68 p g (loadF f a hs n) ∧ Only (fun k => k = g) w w' := by
  by_cases c' : canLoad a n
  · have e : okL a n = true := decide_eq_true c'
    rw [loadF, if_pos e, e]; exact load_yes w p g f a A n c hs h hh hd c'
  · have e : okL a n = false := decide_eq_false c'
    rw [loadF, e, if_neg (by decide)]; refine (load_no w _ a A n c c').mono ?_
    rintro e w' ⟨rfl, rfl⟩; exact ⟨rfl, h, Only.refl _ _⟩
theorem rword_t (h : Mm w 72 p g f) : Calls Try.prog 33 #[.pointer (some ⟨p, 0, none⟩), .int .i64 a] w fun e w' => e = .returned (.tuple #[.int .u32 (wordV f a), .bool (okW a)]) ∧ ∃ q, w' = w.drewN q := by
  by_cases c : 0 ≤ a ∧ a % 4 = 0 ∧ a < 262144
  · have e : okW a = true := decide_eq_true c
    rw [wordV, if_pos e, e]; exact rword_yes w p g f a h c.1 c.2.1 c.2.2
  · have e : okW a = false := decide_eq_false c
    rw [wordV, e, if_neg (by decide)]; refine (rword_no w _ a (by omega)).mono ?_
    rintro e w' ⟨rfl, rfl⟩; exact ⟨rfl, 0, rfl⟩
theorem rhalf_t (h : Mm w 72 p g f) : Calls Try.prog 35 #[.pointer (some ⟨p, 0, none⟩), .int .i64 a] w fun e w' => e = .returned (.tuple #[.int .u16 (halfV f a), .bool (okH a)]) ∧ ∃ q, w' = w.drewN q := by
  by_cases c : 0 ≤ a ∧ a % 2 = 0 ∧ a < 131072
  · have e : okH a = true := decide_eq_true c
    rw [halfV, if_pos e, e]; exact rhalf_yes w p g f a h c.1 c.2.1 c.2.2
  · have e : okH a = false := decide_eq_false c
    rw [halfV, e, if_neg (by decide)]; refine (rhalf_no w _ a (by omega)).mono ?_
    rintro e w' ⟨rfl, rfl⟩; exact ⟨rfl, 0, rfl⟩
theorem rbyte_t (h : Mm w 72 p g f) : Calls Try.prog 34 #[.pointer (some ⟨p, 0, none⟩), .int .i64 a] w fun e w' => e = .returned (.tuple #[.int .u8 (byteV f a), .bool (okB a)]) ∧ w = w' := by
  by_cases c : 0 ≤ a ∧ a < 262144
  · have e : okB a = true := decide_eq_true c
    rw [byteV, if_pos e, e]; exact rbyte_yes w p g f a h c.1 c.2
  · have e : okB a = false := decide_eq_false c
    rw [byteV, e, if_neg (by decide)]; exact rbyte_no w _ a (by omega)
theorem rsetword_t (h : Mm w 72 p g f) : Calls Try.prog 31 #[.pointer (some ⟨p, 0, none⟩), .int .i64 a, .int .u32 v] w fun e w' => e = .returned (.bool (okSW a)) ∧ Mm w' 72 p g (setWF f a v) ∧ Only (fun k => k = g) w w' := by
  by_cases c : 131072 ≤ a ∧ a % 4 = 0 ∧ a < 262144
  · have e : okSW a = true := decide_eq_true c
    rw [setWF, if_pos e, e]; exact rsetword_yes w p g f a v h c.1 c.2.1 c.2.2
  · have e : okSW a = false := decide_eq_false c
    rw [setWF, e, if_neg (by decide)]; refine (rsetword_no w _ a v (by omega)).mono ?_
    rintro e w' ⟨rfl, rfl⟩; exact ⟨rfl, h, Only.refl _ _⟩
theorem rsetbyte_t (h : Mm w 72 p g f) (hv : 0 ≤ v ∧ v ≤ 255) : Calls Try.prog 32 #[.pointer (some ⟨p, 0, none⟩), .int .i64 a, .int .u8 v] w fun e w' => e = .returned (.bool (okSB a)) ∧ Mm w' 72 p g (setBF f a v) ∧ Only (fun k => k = g) w w' := by
  by_cases c : 131072 ≤ a ∧ a < 262144
  · have e : okSB a = true := decide_eq_true c
    rw [setBF, if_pos e, e]; exact rsetbyte_yes w p g f a v h c.1 c.2 hv
  · have e : okSB a = false := decide_eq_false c
    rw [setBF, e, if_neg (by decide)]; refine (rsetbyte_no w _ a v (by omega)).mono ?_
    rintro e w' ⟨rfl, rfl⟩; exact ⟨rfl, h, Only.refl _ _⟩
theorem rload_t (A : Option Addr) (n c : Nat) (hs : List Int) (h : Mm w 72 p g f) (hh : Hs w A n hs) (hd : ∀ b o s, A = some ⟨b, o, s⟩ → 0 < n → b ≠ g) : Calls Try.prog 30 #[.pointer (some ⟨p, 0, none⟩), .int .i64 a, .slice A n c] w fun e w' => e = .returned (.bool (okL a n)) ∧ Mm w' 72 p g (loadF f a hs n) ∧ Only (fun k => k = g) w w' := by
  by_cases c' : canLoad a n
  · have e : okL a n = true := decide_eq_true c'
    rw [loadF, if_pos e, e]; exact rload_yes w p g f a A n c hs h hh hd c'
  · have e : okL a n = false := decide_eq_false c'
    rw [loadF, e, if_neg (by decide)]; refine (rload_no w _ a A n c c').mono ?_
    rintro e w' ⟨rfl, rfl⟩; exact ⟨rfl, h, Only.refl _ _⟩
end
end Go.Proofs.Ytmbaoaoglhonfaa
