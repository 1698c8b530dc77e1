/- Package mem: Load; slices of halfwords. -/
import Derived.Test.YtmbaoaoglhonfaaMem2
import Derived.Deep.DeepCutAuto
namespace Go.Proofs.Ytmbaoaoglhonfaa
open Go.RowKit On
/-- a slice of halfwords -/
structure Hs (w : World) (A : Option Addr) (n : Nat) (xs : List Int) : Prop where
  len : xs.length = n
  half : ∀ x ∈ xs, 0 ≤ x ∧ x ≤ 65535
  none_ : A = none → n = 0
  cell : ∀ b o s i, A = some ⟨b, o, s⟩ → i < n → w.cell? ⟨b, o + i, none⟩ = some (.int .u16 (xs.getD i 0)) ∧ s = none ∧ b < w.heap.size
theorem Hs.keep {w w' : World} {A : Option Addr} {n : Nat} {xs : List Int} (h : Hs w A n xs) (hk : ∀ b o s, A = some ⟨b, o, s⟩ → b < w.heap.size → ∀ i, w'.cell? ⟨b, i, none⟩ = w.cell? ⟨b, i, none⟩) (hs : w.heap.size ≤ w'.heap.size) : Hs w' A n xs :=
  ⟨h.len, h.half, h.none_, fun b o s i hA hi => by
    obtain ⟨h1, h2, h3⟩ := h.cell b o s i hA hi
    exact ⟨(hk b o s hA h3 _).trans h1, h2, Nat.lt_of_lt_of_le h3 hs⟩⟩
theorem Hs.below {w w' : World} {A : Option Addr} {n : Nat} {xs : List Int} (h : Hs w A n xs) (hb : Below w.heap.size w w') : Hs w' A n xs :=
  h.keep (fun b _ _ _ hlt i => hb.cell (p := ⟨b, i, none⟩) hlt) hb.size
theorem Hs.only {w w' : World} {A : Option Addr} {n : Nat} {xs : List Int} {S : Nat → Prop} (h : Hs w A n xs) (hO : Only S w w') (hS : ∀ b o s, A = some ⟨b, o, s⟩ → 0 < n → ¬ S b) : Hs w' A n xs := by
  by_cases h0 : n = 0
  · subst h0; exact ⟨h.len, h.half, h.none_, fun b o s i _ hi => by omega⟩
  · exact h.keep (fun b o s hA hb i => hO.cell (p := ⟨b, i, none⟩) hb (hS b o s hA (by omega))) hO.size
theorem Hs.drewN {w : World} {A : Option Addr} {n : Nat} {xs : List Int} (h : Hs w A n xs) (k : Nat) : Hs (w.drewN k) A n xs := ⟨h.len, h.half, h.none_, h.cell⟩
theorem Hs.take {w : World} {A : Option Addr} {n : Nat} {xs : List Int} (h : Hs w A n xs) {k : Nat} (hk : k ≤ n) : Hs w A k (xs.take k) :=
  ⟨by rw [List.length_take, h.len]; omega, fun x hx => h.half x (List.mem_of_mem_take hx), fun e => by have := h.none_ e; omega, fun b o s i hA hi => by
    obtain ⟨h1, h2, h3⟩ := h.cell b o s i hA (by omega)
    refine ⟨?_, h2, h3⟩
    rw [h1]; simp [List.getD_eq_getElem?_getD, hi]⟩
theorem getD_half {xs : List Int} (h : ∀ x ∈ xs, 0 ≤ x ∧ x ≤ 65535) (k : Nat) : 0 ≤ xs.getD k 0 ∧ xs.getD k 0 ≤ 65535 := by
  rw [List.getD_eq_getElem?_getD]
  by_cases hk : k < xs.length
  · rw [List.getElem?_eq_getElem hk]; exact h _ (List.getElem_mem hk)
  · rw [List.getElem?_eq_none (by omega)]; simp
/-- halfwords laid from a place on -/
def loadB (f : Nat → Int) (a : Nat) (hs : List Int) : Nat → Nat → Int
  | 0 => f
  | k + 1 => setB (loadB f a hs k) (a + 2 * k) 2 (hs.getD k 0)
def canLoad (a : Int) (n : Nat) : Prop := 0 ≤ a ∧ a % 2 = 0 ∧ a ≤ 131072 ∧ (n : Int) ≤ (131072 - a) / 2
set_option maxHeartbeats 400000 in
theorem load_yes (w : World) (p g : Nat) (f : Nat → Int) (a : Int) (A : Option Addr) (n c : Nat) (hs : List Int) (h : Mm w 68 p g f) (hh : Hs w A n hs) (hd : ∀ b o s, A = some ⟨b, o, s⟩ → 0 < n → b ≠ g) (hl : canLoad a n) :
    Calls Try.prog 26 #[.pointer (some ⟨p, 0, none⟩), .int .i64 a, .slice A n c] w fun e w' => e = .returned (.bool true) ∧ Mm w' 68 p g (loadB f a.toNat hs n) ∧ Only (fun k => k = g) w w' := by
  obtain ⟨h0, h1, h2, h3⟩ := hl
  obtain ⟨a, rfl⟩ := Int.eq_ofNat_of_zero_le h0
  rw [Int.toNat_natCast]
  have hz : ((a : Int) % 2 != 0) = false := by rw [h1]; rfl
  have h2' : ¬ 131072 < (a : Int) := by omega
  have h3' : ¬ (131072 - (a : Int)) / 2 < (n : Int) := by omega
  have hn : (n : Int) ≤ 65536 := by omega
  have hfit : (a : Int) + 2 * n ≤ 131072 := by omega
  have hneg : ¬ (a : Int) < 0 := by omega
  have H := Lib.hid h; have HH := Lib.hid hh; have HD := Lib.hid hd
  have HF := Lib.hid hfit
  clear h hh hd h1 h2 h3 h0 hfit
  go_enter Try.func26, Try.ntmps26
  go_wp2_with fail
  go_loopw [30] (fun i wr => ∃ k : Nat, k ≤ n ∧ i = .int .i64 k ∧ Mm wr 68 p g (loadB f a hs k) ∧ Only (fun k => k = g) w wr) (fun i _ => n - (intOf i).toNat)
  case atStart => exact ⟨0, Nat.zero_le _, rfl, H.out, Only.refl _ _⟩
  case round =>
    obtain ⟨k, hk, rfl, hm, hO⟩ := hrel
    have HM := Lib.hid hm; have HO := Lib.hid hO; clear hm hO
    by_cases hlt : k < n
    · cases A with
      | none => have := HH.out.none_ rfl; omega
      | some ad =>
        obtain ⟨b, o, s⟩ := ad
        obtain ⟨hc, rfl, hb⟩ := HH.out.cell b o s k rfl hlt
        rw [← HO.out.cell (p := ⟨b, o + k, none⟩) hb (HD.out b o none rfl (by omega))] at hc
        have hr := getD_half HH.out.half k
        have HS : Hid (loadB f a hs (k + 1) = setB (loadB f a hs k) (a + 2 * k) 2 (hs.getD k 0)) := rfl
        generalize hs.getD k 0 = x at *
        clear hb
        go_wp2_with fail
        refine (put_c wr p g _ ((a : Int) + 2 * k) 2 x HM.out (by omega) (by omega) (by rw [mt]; have := HF.out; omega)).mono ?_
        rintro e w2 ⟨rfl, hm, hO⟩
        rw [show ((a : Int) + 2 * k).toNat = a + 2 * k by omega] at hm
        have HM2 := Lib.hid hm; have HO2 := Lib.hid (HO.out.trans hO (fun _ _ h => h)); clear hm hO
        go_wp2_with fail
        go_roundw
        case rel => exact ⟨k + 1, by omega, by go_num, by rw [HS.out]; exact HM2.out, HO2.out⟩
        case measure => simp [intOf]; omega
    · have : k = n := by omega
      subst this
      go_wp2
      go_ret
      exact ⟨rfl, HM.out, HO.out⟩
theorem load_no (w : World) (P : Value) (a : Int) (A : Option Addr) (n c : Nat) (hl : ¬ canLoad a n) :
    Calls Try.prog 26 #[P, .int .i64 a, .slice A n c] w fun e w' => e = .returned (.bool false) ∧ w = w' := by
  unfold canLoad at hl
  by_cases h0 : a < 0
  · clear hl
    go_enter Try.func26, Try.ntmps26
    go_wp2
    go_ret
    exact ⟨rfl, rfl⟩
  · have hp : 0 ≤ a := by omega
    by_cases h1 : a % 2 = 0
    · have hz : (a % 2 != 0) = false := by rw [h1]; rfl
      by_cases h2 : 131072 < a
      · clear hl h1
        go_enter Try.func26, Try.ntmps26
        go_wp2
        go_ret
        exact ⟨rfl, rfl⟩
      · have h3 : (131072 - a) / 2 < (n : Int) := by omega
        clear hl h1
        go_enter Try.func26, Try.ntmps26
        go_wp2
        go_ret
        exact ⟨rfl, rfl⟩
    · have hz : (a % 2 != 0) = true := by rw [bne_iff_ne]; exact h1
      clear hl h1
      go_enter Try.func26, Try.ntmps26
      go_wp2
      go_ret
      exact ⟨rfl, rfl⟩
end Go.Proofs.Ytmbaoaoglhonfaa
