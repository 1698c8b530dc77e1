/- The contract of taciturnhand.Few: the first bytes, in new memory. -/
import Derived.Test.YtelkohkacdocpaaSame
import Derived.OwnWalk
import Derived.Laws.AppendOwnNone
import Derived.WalkSmall
namespace Go.Proofs.Ytelkohkacdocpaa
open Go.RowKit By
theorem info_u8 : (Try.prog.info? 5).map (fun i => (i.zero, i.size, i.bytes)) = some (some (.int .u8 0), 1, 1) := by kernel_rfl
def FewPost (w : World) (k : Nat) (xs : List Value) (e : Ending) (w' : World) : Prop :=
  ∃ v, e = .returned v ∧ w'.ownsRow w.heap.size 5 1 v k xs ∧ (∃ a c, v = .slice (some a) k c) ∧ Below w.heap.size w w'
theorem own_some {w : World} {base e size n : Nat} {v : Value} {xs : List Value} (h : w.ownsRow base e size v n xs) (hv : v ≠ .slice none 0 0) : ∃ a c, v = .slice (some a) n c := by
  rcases h.2 with ⟨h1, _⟩ | ⟨g, cap, cur, h1, _⟩
  · exact absurd h1 hv
  · exact ⟨_, _, h1⟩
theorem few_some (a : Addr) (n c : Nat) (m : Int) (k : Nat) (xs : List Int) (w : World) (ha : Bs w (some a) n xs) (hn : n ≤ 140737488355328) (hnc : n ≤ c)
    (hk : (m < (n : Int) ∧ m = (k : Int)) ∨ (¬ m < (n : Int) ∧ n = k)) (hm2 : m ≤ 9223372036854775807) :
    Calls Try.prog 26 #[.slice (some a) n c, .int .i64 m] w (FewPost w k ((xs.take k).map (Value.int .u8))) := by
  obtain ⟨i0, hi0, hz0, hz1, hz2⟩ := info_parts info_u8
  have HL : Hid (((xs.take k).map (Value.int .u8)).length = k * 1) := by
    unfold Hid; have := ha.len; simp; omega
  have HC : Hid (∀ j u, ((xs.take k).map (Value.int .u8))[j]? = some u → (w.alloc (.cells #[] 5)).cell? (a.add j) = some u) := by
    unfold Hid; intro j u hu
    rw [List.getElem?_map, Option.map_eq_some_iff] at hu
    obtain ⟨y, hy, rfl⟩ := hu
    rw [List.getElem?_take] at hy
    split at hy
    · have hjx := List.getElem?_eq_some_iff.mp hy
      obtain ⟨b, o, s⟩ := a
      obtain ⟨h1, rfl, h2⟩ := ha.cell b o s j rfl (by have := ha.len; obtain ⟨h, _⟩ := hjx; omega)
      have e : (⟨b, o, none⟩ : Addr).add j = ⟨b, o + j, none⟩ := by unfold Addr.add; split <;> simp_all
      rw [e, World.cell?_alloc_lt w _ _ h2, h1]
      simp [List.getD_eq_getElem?_getD, hy]
    · cases hy
  have HO : Hid (∀ u ∈ (xs.take k).map (Value.int .u8), u.oneCell' = true) := by
    unfold Hid; intro u hu
    rw [List.mem_map] at hu; obtain ⟨y, _, rfl⟩ := hu; rfl
  clear ha
  generalize (xs.take k).map (Value.int .u8) = ys at *
  have hown := World.ownsRow_made (size := 1) (e := 5) (base := w.heap.size) w #[] 0 (Nat.le_refl _) (by unfold maxLen; omega) (by simp)
  rcases hk with ⟨hlt, rfl⟩ | ⟨hge, rfl⟩
  all_goals
    go_enter Try.func26, Try.ntmps26
    go_wp2_with (at_builtin; refine wpList_append_own _ rfl (.tmp 5) (.tmp 11) _ rfl w.heap.size 5 i0 _ 1 1 Try.underlying32 hi0 hz0 hz1 hz2 rfl (by omega) _ 0 [] rfl hown a _ c _ rfl HL.out HC.out HO.out (by unfold maxLen; omega) (by omega) (by simp) ?_)
    intro v' w1 hown1 hg hn1
    have hb : Below w.heap.size w w1 := ((Below.refl _ _).alloc (Nat.le_refl _) _).grown hg (by simp) (by simp [Value.ownBlock])
    try simp only [Nat.zero_add, List.nil_append] at hown1
    have hs := own_some hown1 (fun e => hn1 e)
    obtain ⟨a', c', hv⟩ := hs
    subst hv
    have HW := Lib.hid hown1; clear hown1 hown hn1
    go_wp2
    go_ret
    exact ⟨_, rfl, HW.out, ⟨_, _, rfl⟩, hb⟩
theorem few_none (m : Int) (w : World) (hm : 0 ≤ m) (hm2 : m ≤ 9223372036854775807) :
    Calls Try.prog 26 #[.slice none 0 0, .int .i64 m] w (FewPost w 0 []) := by
  obtain ⟨i0, hi0, hz0, hz1, hz2⟩ := info_parts info_u8
  have hown := World.ownsRow_made (size := 1) (e := 5) (base := w.heap.size) w #[] 0 (Nat.le_refl _) (by unfold maxLen; omega) (by simp)
  have hmm : ¬ m < 0 := by omega
  go_enter Try.func26, Try.ntmps26
  go_wp2_with (at_builtin; refine wpList_append_own_none rfl (.tmp 5) (.tmp 11) _ rfl w.heap.size 5 i0 1 Try.underlying32 hi0 _ 0 [] rfl hown rfl ?_)
  go_wp2
  go_ret
  exact ⟨_, rfl, hown, ⟨_, _, rfl⟩, (Below.refl _ _).alloc (Nat.le_refl _) _⟩
theorem few_c (A : Option Addr) (n c : Nat) (m : Int) (xs : List Int) (w : World) (ha : Bs w A n xs) (hn : n ≤ 140737488355328) (hnc : n ≤ c) (hc0 : A = none → c = 0) (hm : 0 ≤ m) (hm2 : m ≤ 9223372036854775807) :
    Calls Try.prog 26 #[.slice A n c, .int .i64 m] w (FewPost w (min n m.toNat) ((xs.take (min n m.toNat)).map (Value.int .u8))) := by
  cases A with
  | none =>
    have h0 := ha.none_ rfl; have h1 := hc0 rfl
    subst h0; subst h1
    have : xs = [] := List.eq_nil_of_length_eq_zero ha.len
    subst this
    simpa using few_none m w hm hm2
  | some a =>
    refine few_some a n c m _ xs w ha hn hnc ?_ hm2
    by_cases h : m < (n : Int)
    · exact .inl ⟨h, by omega⟩
    · exact .inr ⟨h, by omega⟩
/-- the same, as bytes of a block of its own -/
def FewBs (w : World) (k : Nat) (xs : List Int) (e : Ending) (w' : World) : Prop :=
  ∃ g o c, e = .returned (.slice (some ⟨g, o, none⟩) k c) ∧ Bs w' (some ⟨g, o, none⟩) k xs ∧ w.heap.size ≤ g ∧ (∀ i, w'.frozen? ⟨g, i, none⟩ = false) ∧ k ≤ c ∧ c ≤ maxLen ∧ Below w.heap.size w w'
theorem few_bs (A : Option Addr) (n c : Nat) (m : Int) (xs : List Int) (w : World) (ha : Bs w A n xs) (hn : n ≤ 140737488355328) (hnc : n ≤ c) (hc0 : A = none → c = 0) (hm : 0 ≤ m) (hm2 : m ≤ 9223372036854775807) :
    Calls Try.prog 26 #[.slice A n c, .int .i64 m] w (FewBs w (min n m.toNat) (xs.take (min n m.toNat))) := by
  refine (few_c A n c m xs w ha hn hnc hc0 hm hm2).mono ?_
  rintro e w1 ⟨v, rfl, hown, ⟨a', c', rfl⟩, hbl⟩
  have hB := Bs.own hown (fun x hx => ha.byte x (List.mem_of_mem_take hx))
  rcases hown.2 with ⟨h2, _⟩ | ⟨g, cap, cur, h2, hb, hh, hc1, hc2, _⟩
  · simp at h2
  · simp only [Value.slice.injEq, Option.some.injEq] at h2
    obtain ⟨rfl, _, rfl⟩ := h2
    exact ⟨g, 0, _, rfl, hB, hb, fun i => by simp [World.frozen?, hh], hc1, hc2, hbl⟩
end Go.Proofs.Ytelkohkacdocpaa
