/- HeapPlays: the calls' contracts that it needs beside the others. -/
import Derived.Test.YtjmpnkhgligdlaaH8h
import Derived.Test.YtjmpnkhgligdlaaFew8
namespace Go.Proofs.Ytjmpnkhgligdlaa
open Go.RowKit On Hv Go.Sort
theorem getI_out (w : World) (B p : Nat) (sz : Int) (L : List Ar) (F : Nat → Prop) (h : AtI w B p sz L F) (i : Nat) (a : Ar) (ref at_ : Int) (hi : ref = i + 1) (ha : L[i]? = some a) (hd : at_ < 0 ∨ (a.data.length : Int) ≤ at_) :
    Calls Try.prog 19 #[.pointer (some ⟨p, 0, none⟩), .int .i64 ref, .int .i64 at_] w fun e w' => e = .returned (.tuple #[.int .u8 0, .bool false]) ∧ w = w' := by
  obtain ⟨q, c, R, h1, h2, h3, h4, h5, h6, h7, h8, h9, h10, h11⟩ := h.open
  have hlen := h5.len
  obtain ⟨D, hx⟩ := map_get h3 ha
  have hiL : i < L.length := (List.getElem?_eq_some_iff.mp ha).1
  exact get_out w B p sz q L.length c i R (a, D) ref at_ h1 (by omega) (by omega) (by omega) hx (by omega) hd
theorem getI_no (w : World) (B p : Nat) (sz : Int) (L : List Ar) (F : Nat → Prop) (h : AtI w B p sz L F) (ref at_ : Int) (hr : ref < 1 ∨ (L.length : Int) < ref) :
    Calls Try.prog 19 #[.pointer (some ⟨p, 0, none⟩), .int .i64 ref, .int .i64 at_] w fun e w' => e = .returned (.tuple #[.int .u8 0, .bool false]) ∧ w = w' := by
  obtain ⟨q, c, R, h1, _⟩ := h.open
  exact get_no w B p sz q L.length c R ref at_ h1 hr
/-- a byte put, or not -/
theorem putI_any (w : World) (B p : Nat) (sz : Int) (L : List Ar) (F : Nat → Prop) (h : AtI w B p sz L F) (v : Int) (hv : 0 ≤ v ∧ v ≤ 255) :
    Calls Try.prog 15 #[.pointer (some ⟨p, 0, none⟩), .int .i64 3, .int .i64 0, .int .u8 v] w fun e w' => (∃ b, e = .returned (.bool b)) ∧ Only F w w' := by
  by_cases hl : 2 < L.length
  · obtain ⟨a, ha⟩ : ∃ a, L[2]? = some a := ⟨L[2], by simp [hl]⟩
    by_cases hd : 0 < a.data.length
    · refine (put_yes w B p sz L F 2 0 a 3 0 v h ha (by omega) (by rfl) hd hv).mono ?_
      rintro e w' ⟨rfl, _, hO⟩
      exact ⟨⟨_, rfl⟩, hO⟩
    · refine (putI_out w B p sz L F h 2 a 3 0 v (by omega) ha (.inr (by omega))).mono ?_
      rintro e w' ⟨rfl, rfl⟩
      exact ⟨⟨_, rfl⟩, Only.refl _ _⟩
  · refine (putI_no w B p sz L F h 3 0 v (.inr (by omega))).mono ?_
    rintro e w' ⟨rfl, rfl⟩
    exact ⟨⟨_, rfl⟩, Only.refl _ _⟩
theorem two_start {w w1 w2 : World} {p p' : Nat} {sz : Int} {F G : Nat → Prop} (hi : AtI w1 w.heap.size p sz [buf0, buf1] F) (hb1 : Below w.heap.size w w1) (hr2 : At 5 37 49 w2 w1.heap.size p' sz [buf0, buf1] G) (hb2 : Below w1.heap.size w1 w2) :
    Two w p p' sz [buf0, buf1] [buf0, buf1] F G w2 :=
  ⟨hi.below hb2, by
    obtain ⟨V, R, k1, k2, k3, k4, k5, k6⟩ := hr2
    have := hb1.size
    exact ⟨V, R, ⟨by have := k1.ge; omega, k1.blk, by
      obtain ⟨o1, o2⟩ := k1.row
      refine ⟨o1, ?_⟩
      rcases o2 with o2 | ⟨g, cap, cur, e1, e2, e3⟩
      · exact .inl o2
      · exact .inr ⟨g, cap, cur, e1, by omega, e3⟩, fun i x hx => (k1.dat i x hx).mono this⟩, k2, k3, k4, k5, fun k hk => ⟨by have := (k6 k hk).1; omega, (k6 k hk).2⟩⟩,
    fun k hk hg => by have := (hi.lt hk).2; obtain ⟨_, _, _, _, _, _, _, k6⟩ := hr2; have := (k6 k hg).1; omega, hb1.trans (hb2.mono hb1.size)⟩
section
variable {w0 w w' : World} {p p' : Nat} {sz : Int} {L L' K : List Ar} {F G : Nat → Prop}
theorem Two.put (h : Two w0 p p' sz L L' F G w) (h1 : AtI w' w0.heap.size p sz K F) (hO : Only F w w') : Two w0 p p' sz K L' F G w' :=
  ⟨h1, h.r.keep hO (fun k hg hf => h.apart k hf hg), h.apart, h.below.trans (hO.below h.below.size (fun _ hk => (h.i.lt hk).1))⟩
/-- what was in a block of neither heap is as it was -/
theorem Two.ge (h : Two w0 p p' sz L L' F G w) {k : Nat} (hk : F k ∨ G k) : k < w.heap.size := by
  rcases hk with hk | hk
  · exact (h.i.lt hk).2
  · exact (h.r.lt hk).2
end
theorem puts_one' (xs : List Int) (j : Nat) (v : Int) : puts xs j [v] ([v] : List Int).length = xs.set j v := rfl
theorem set_get {xs : List Int} {j : Nat} (v : Int) (h : j < xs.length) : (xs.set j v).getD j 0 = v := by simp [List.getD_eq_getElem?_getD, h]
theorem dw_one {w : World} (v : Int) (hv : 0 ≤ v ∧ v ≤ 255) : Dw 5 (w.alloc (.cells #[.int .u8 v] 5)) w.heap.size (.slice (some ⟨w.heap.size, 0, none⟩) 1 1) [v] :=
  ⟨_, 1, rfl, nofun, Nat.le_refl _, by unfold maxLen; omega, by simpa using hv, fun _ => ⟨_, _, rfl, Nat.le_refl _, Blk.new _ _ _, rfl⟩⟩
end Go.Proofs.Ytjmpnkhgligdlaa
