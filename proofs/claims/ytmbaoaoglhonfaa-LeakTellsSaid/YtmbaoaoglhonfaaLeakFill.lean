/- The contract of fill. -/
import Derived.Test.YtmbaoaoglhonfaaLeakKnown
namespace Go.Proofs.Ytmbaoaoglhonfaa
open Go.RowKit On
/-- a slice of events that came in -/
structure Evs (w : World) (A : Option Addr) (n : Nat) (xs : List Ev) : Prop where
  len : xs.length = n
  wf : ∀ x ∈ xs, -9223372036854775808 ≤ x.b ∧ x.b ≤ 9223372036854775807
  none_ : A = none → n = 0
  cell : ∀ b o s i (hi : i < xs.length), A = some ⟨b, o, s⟩ → s = none ∧ b < w.heap.size ∧ w.cell? ⟨b, o + i * 4, none⟩ = some (.int .i64 (xs[i]'hi).what) ∧ w.cell? ⟨b, o + i * 4 + 1, none⟩ = some (.int .i64 (xs[i]'hi).a) ∧
    w.cell? ⟨b, o + i * 4 + 2, none⟩ = some (.int .i64 (xs[i]'hi).b) ∧ w.cell? ⟨b, o + i * 4 + 3, none⟩ = some (.int .i64 (xs[i]'hi).c)
theorem Evs.keep {w w' : World} {A : Option Addr} {n : Nat} {xs : List Ev} (h : Evs w A n xs) (hk : ∀ b o s, A = some ⟨b, o, s⟩ → b < w.heap.size → ∀ i, w'.cell? ⟨b, i, none⟩ = w.cell? ⟨b, i, none⟩) (hs : w.heap.size ≤ w'.heap.size) : Evs w' A n xs :=
  ⟨h.len, h.wf, h.none_, fun b o s i hi hA => by
    obtain ⟨h1, h2, h3, h4, h5, h6⟩ := h.cell b o s i hi hA
    have := hk b o s hA h2
    exact ⟨h1, Nat.lt_of_lt_of_le h2 hs, (this _).trans h3, (this _).trans h4, (this _).trans h5, (this _).trans h6⟩⟩
theorem Evs.below {w w' : World} {A : Option Addr} {n : Nat} {xs : List Ev} (h : Evs w A n xs) (hb : Below w.heap.size w w') : Evs w' A n xs :=
  h.keep (fun b _ _ _ hlt i => hb.cell (p := ⟨b, i, none⟩) hlt) hb.size
theorem Evs.drewN {w : World} {A : Option Addr} {n : Nat} {xs : List Ev} (h : Evs w A n xs) (k : Nat) : Evs (w.drewN k) A n xs := ⟨h.len, h.wf, h.none_, h.cell⟩
def fillEv (turn by_ : Int) (i : Nat) (x : Ev) : Ev := if (i : Int) = turn then ⟨x.what, x.a, wrap64 (x.b + by_), x.c⟩ else x
def filled (turn by_ : Int) (l : List Ev) : List Ev := l.mapIdx (fillEv turn by_)
theorem filled_take (turn by_ : Int) (l : List Ev) (k : Nat) (hk : k < l.length) : filled turn by_ (l.take (k + 1)) = filled turn by_ (l.take k) ++ [fillEv turn by_ k (l[k]'hk)] := by
  unfold filled
  rw [List.take_succ_eq_append_getElem hk, List.mapIdx_append]
  simp; rw [Nat.min_eq_left (by omega)]
theorem filled_len (turn by_ : Int) (l : List Ev) : (filled turn by_ l).length = l.length := by unfold filled; simp
theorem Evs.take {w : World} {A : Option Addr} {n : Nat} {xs : List Ev} (h : Evs w A n xs) {k : Nat} (hk : k ≤ n) : Evs w A k (xs.take k) :=
  ⟨by rw [List.length_take, h.len]; omega, fun x hx => h.wf x (List.mem_of_mem_take hx), fun e => by have := h.none_ e; omega, fun b o s i hi hA => by
    have h2 : i < xs.length := by rw [List.length_take] at hi; omega
    have := h.cell b o s i h2 hA
    rw [List.getElem_take]; exact this⟩
theorem filled_at (turn by_ : Int) (l : List Ev) (i : Nat) : (filled turn by_ l)[i]? = (l[i]?).map (fillEv turn by_ i) := by unfold filled; rw [List.getElem?_mapIdx]
theorem filled_same {turn by_ : Int} {l : List Ev} (h : ¬ (0 ≤ turn ∧ turn < l.length ∧ by_ ≠ 0)) (hw : ∀ x ∈ l, -9223372036854775808 ≤ x.b ∧ x.b ≤ 9223372036854775807) : filled turn by_ l = l := by
  apply List.ext_getElem?
  intro i
  rw [filled_at]
  cases he : l[i]? with
  | none => rfl
  | some x =>
    obtain ⟨hi, hx⟩ := List.getElem?_eq_some_iff.mp he
    simp only [Option.map_some, Option.some.injEq]
    unfold fillEv
    by_cases e : (i : Int) = turn
    · rw [if_pos e]
      have hb : by_ = 0 := by
        by_cases hb : by_ = 0
        · exact hb
        · exact absurd ⟨by omega, by omega, hb⟩ h
      have hxb := hw x (by rw [← hx]; exact List.getElem_mem hi)
      subst hb
      have : wrap64 (x.b + 0) = x.b := by unfold wrap64; omega
      rw [this]
    · rw [if_neg e]
theorem filled_ne {turn by_ : Int} {l : List Ev} (k : Nat) (hk : (k : Int) = turn) (h : k < l.length) (hb : by_ ≠ 0) (hb1 : -9223372036854775808 ≤ by_) (hb2 : by_ ≤ 9223372036854775807) :
    l.take k = (filled turn by_ l).take k ∧ l[k]? ≠ (filled turn by_ l)[k]? := by
  constructor
  · apply List.ext_getElem?
    intro i
    rw [List.getElem?_take, List.getElem?_take]
    split
    · rw [filled_at]
      cases l[i]? with
      | none => rfl
      | some x => simp only [Option.map_some]; unfold fillEv; rw [if_neg (by omega)]
    · rfl
  · rw [filled_at, List.getElem?_eq_getElem h]
    simp only [Option.map_some]
    unfold fillEv
    rw [if_pos hk]
    intro e
    injection e with e
    have := congrArg Ev.b e
    simp only at this
    unfold wrap64 at this; omega
/-- where two traces part -/
def want (turn by_ : Int) (n : Nat) : Int := if 0 ≤ turn ∧ turn < n ∧ by_ ≠ 0 then turn else -1
theorem same_want {turn by_ : Int} {l : List Ev} (hb1 : -9223372036854775808 ≤ by_) (hb2 : by_ ≤ 9223372036854775807) (hw : ∀ x ∈ l, -9223372036854775808 ≤ x.b ∧ x.b ≤ 9223372036854775807) :
    SameRes l (filled turn by_ l) (want turn by_ l.length) := by
  unfold want
  by_cases h : 0 ≤ turn ∧ turn < l.length ∧ by_ ≠ 0
  · rw [if_pos h]
    have h2 := filled_ne (l := l) turn.toNat (turn := turn) (by omega) (by omega) h.2.2 hb1 hb2
    exact .inr ⟨turn.toNat, by omega, h2.1, h2.2⟩
  · rw [if_neg h]; exact .inl ⟨rfl, (filled_same h hw).symm⟩
theorem same_more {l k z : List Ev} {r : Int} (h : SameRes l k r) (hk : k.length = l.length) (hz : z ≠ []) : SameRes (l ++ z) k (if r < 0 then l.length else r) := by
  rcases h with ⟨rfl, rfl⟩ | ⟨i, rfl, h1, h2⟩
  · rw [if_pos (by omega)]
    refine .inr ⟨l.length, rfl, by simp, ?_⟩
    rw [List.getElem?_append_right (Nat.le_refl _), Nat.sub_self]
    cases z with
    | nil => exact absurd rfl hz
    | cons a z => simp
  · rw [if_neg (by omega)]
    have hi : i < l.length := by
      rcases Nat.lt_or_ge i l.length with h | h
      · exact h
      · exact absurd (by rw [List.getElem?_eq_none h, List.getElem?_eq_none (by omega)]) h2
    refine .inr ⟨i, rfl, ?_, ?_⟩
    · rw [List.take_append_of_le_length (by omega)]; exact h1
    · rw [List.getElem?_append_left hi]; exact h2
theorem rel_add_s (w0 w : World) (p : Nat) (g0 : Option Nat) (l : List Ev) (x1 x2 x3 x4 : Int) (h : Rel w0 p g0 l w) (hl : l.length < 200000) :
    Calls Try.prog 12 #[.pointer (some ⟨p, 0, none⟩), .int .i64 x1, .int .i64 x2, .int .i64 x3, .int .i64 x4] w fun e w' => e = .returned (.bool true) ∧ Rel w0 p g0 (l ++ [⟨x1, x2, x3, x4⟩]) w' ∧ w.heap.size ≤ w'.heap.size := by
  obtain ⟨g, h1, h2, h3⟩ := h
  refine (trAdd_c w p g l ⟨x1, x2, x3, x4⟩ h1 hl).mono ?_
  rintro e w' ⟨rfl, hh⟩
  exact ⟨rfl, Rel.add h2 h3 hh, by obtain ⟨_, _, _, hO⟩ := hh; exact hO.size⟩
set_option maxHeartbeats 1000000 in
theorem fill_c (w0 w : World) (p : Nat) (g0 : Option Nat) (l0 xs : List Ev) (A : Option Addr) (n c : Nat) (turn by_ : Int) (hr : Rel w0 p g0 l0 w) (hx : Evs w A n xs)
    (hd : ∀ b o s, A = some ⟨b, o, s⟩ → 0 < n → b < w0.heap.size ∧ ¬ TrB p g0 b) (hn : n ≤ 100) (hl : l0.length ≤ 100) :
    Calls Try.prog 15 #[.pointer (some ⟨p, 0, none⟩), .slice A n c, .int .i64 turn, .int .i64 by_] w fun e w' => e = .returned (.bool true) ∧ Rel w0 p g0 (l0 ++ filled turn by_ xs) w' := by
  have HR := Lib.hid hr; clear hr
  have HX := Lib.hid hx; clear hx
  have HD := Lib.hid hd; clear hd
  have HL := Lib.hid hl; clear hl
  go_enter Try.func15, Try.ntmps15
  go_wp2_with fail
  go_loopw [9] (fun i wr => ∃ k : Nat, k ≤ n ∧ i = .int .i64 k ∧ Rel w0 p g0 (l0 ++ filled turn by_ (xs.take k)) wr ∧ Evs wr A n xs ∧ w.heap.size ≤ wr.heap.size) (fun i _ => n - (intOf i).toNat)
  case atStart => exact ⟨0, Nat.zero_le _, rfl, by have := HR.out; simpa [filled] using this, HX.out, Nat.le_refl _⟩
  case round =>
    obtain ⟨k, hk, rfl, hr, hx, hsz⟩ := hrel
    have HRR := Lib.hid hr; clear hr
    have HXX := Lib.hid hx; clear hx
    by_cases hlt : k < n
    · cases A with
      | none => have := HXX.out.none_ rfl; omega
      | some a =>
        obtain ⟨b, o, s⟩ := a
        have hkx : k < xs.length := by rw [HXX.out.len]; exact hlt
        obtain ⟨rfl, hb, c1, c2, c3, c4⟩ := HXX.out.cell b o s k hkx rfl
        have HF := Lib.hid (filled_take turn by_ xs k hkx)
        have HLEN : Hid ((l0 ++ filled turn by_ (xs.take k)).length < 200000) := by
          unfold Hid; rw [List.length_append, filled_len, List.length_take]; have := HL.out; omega
        have HE : Hid (fillEv turn by_ k (xs[k]'hkx) = if (k : Int) = turn then ⟨(xs[k]'hkx).what, (xs[k]'hkx).a, wrap64 ((xs[k]'hkx).b + by_), (xs[k]'hkx).c⟩ else ⟨(xs[k]'hkx).what, (xs[k]'hkx).a, (xs[k]'hkx).b, (xs[k]'hkx).c⟩) := rfl
        generalize xs[k]'hkx = x at *
        generalize x.what = x1 at *
        generalize x.a = x2 at *
        generalize x.b = x3 at *
        generalize x.c = x4 at *
        by_cases ht : (k : Int) = turn
        · have hb1 : ((k : Int) == turn) = true := beq_iff_eq.mpr ht
          have HT := Lib.hid ht; clear ht
          go_wp2_with fail
          refine (rel_add_s w0 _ p g0 _ _ _ _ _ (HRR.out.alloc _) HLEN.out).mono ?_
          rintro e w2 ⟨rfl, hr2, hs2⟩
          have HR2 := Lib.hid hr2; clear hr2
          go_wp2_with fail
          go_roundw
          case rel =>
            refine ⟨k + 1, by omega, by go_num, ?_, ?_, ?_⟩
            · have := HR2.out
              rw [HF.out, HE.out, if_pos HT.out, ← List.append_assoc]
              exact this
            · refine HX.out.keep (fun b' o' s' hA hb' i => ?_) ?_
              · injection hA with hA; injection hA with e1 e2 e3; subst e1
                obtain ⟨h1, h2⟩ := HD.out b o none rfl (by omega)
                obtain ⟨g, _, _, hO⟩ := HR2.out
                obtain ⟨g', _, _, hO'⟩ := HR.out
                exact (hO.cell (p := ⟨b, i, none⟩) h1 h2).trans (hO'.cell (p := ⟨b, i, none⟩) h1 h2).symm
              · simp at hs2; omega
            · simp at hs2; omega
          case measure => simp [intOf]; omega
        · have hb1 : ((k : Int) == turn) = false := beq_eq_false_iff_ne.mpr ht
          have HT := Lib.hid ht; clear ht
          go_wp2_with fail
          refine (rel_add_s w0 _ p g0 _ _ _ _ _ (HRR.out.alloc _) HLEN.out).mono ?_
          rintro e w2 ⟨rfl, hr2, hs2⟩
          have HR2 := Lib.hid hr2; clear hr2
          go_wp2_with fail
          go_roundw
          case rel =>
            refine ⟨k + 1, by omega, by go_num, ?_, ?_, ?_⟩
            · have := HR2.out
              rw [HF.out, HE.out, if_neg HT.out, ← List.append_assoc]
              exact this
            · refine HX.out.keep (fun b' o' s' hA hb' i => ?_) ?_
              · injection hA with hA; injection hA with e1 e2 e3; subst e1
                obtain ⟨h1, h2⟩ := HD.out b o none rfl (by omega)
                obtain ⟨g, _, _, hO⟩ := HR2.out
                obtain ⟨g', _, _, hO'⟩ := HR.out
                exact (hO.cell (p := ⟨b, i, none⟩) h1 h2).trans (hO'.cell (p := ⟨b, i, none⟩) h1 h2).symm
              · simp at hs2; omega
            · simp at hs2; omega
          case measure => simp [intOf]; omega
    · have : k = n := by omega
      subst this
      go_wp2
      go_ret
      refine ⟨rfl, ?_⟩
      have := HRR.out
      rwa [List.take_of_length_le (Nat.le_of_eq HXX.out.len)] at this
end Go.Proofs.Ytmbaoaoglhonfaa
