/- The contract of taciturnhand.Few: the first bytes, in new memory (beside the heap's texts). -/
import Derived.Test.YtjmpnkhgligdlaaH8f
import Derived.Test.YtjmpnkhgligdlaaView
import Derived.OwnWalk
import Derived.Laws.AppendOwnNone
import Derived.WalkSmall
namespace Go.Proofs.Ytjmpnkhgligdlaa
open Go.RowKit By
def FewPost (w : World) (k : Nat) (xs : List Value) (e : Ending) (w' : World) : Prop :=
  ∃ v, e = .returned v ∧ w'.ownsRow w.heap.size 5 1 v k xs ∧ (∃ a c, v = .slice (some a) k c) ∧ Below w.heap.size w w'
theorem own_someF {w : World} {base e size n : Nat} {v : Value} {xs : List Value} (h : w.ownsRow base e size v n xs) (hv : v ≠ .slice none 0 0) : ∃ a c, v = .slice (some a) n c := by
  rcases h.2 with ⟨h1, _⟩ | ⟨g, cap, cur, h1, _⟩
  · exact absurd h1 hv
  · exact ⟨_, _, h1⟩
theorem few_some (a : Addr) (n c : Nat) (m : Int) (k : Nat) (xs : List Int) (w : World) (ha : Bs w (some a) n xs) (hn : n ≤ 140737488355328) (hnc : n ≤ c)
    (hk : (m < (n : Int) ∧ m = (k : Int)) ∨ (¬ m < (n : Int) ∧ n = k)) (hm2 : m ≤ 9223372036854775807) :
    Calls Try.prog 25 #[.slice (some a) n c, .int .i64 m] w (FewPost w k ((xs.take k).map (Value.int .u8))) := by
  obtain ⟨i0, hi0, hz0, hz1, hz2⟩ := info_parts info_u8
  have HL : Hid (((xs.take k).map (Value.int .u8)).length = k * 1) := by
    unfold Hid; have := ha.len; simp; omega
  have HC : Hid (∀ j u, ((xs.take k).map (Value.int .u8))[j]? = some u → (w.alloc (.cells #[] 5)).cell? (a.add j) = some u) := by
    unfold Hid; intro j u hu
    rw [List.getElem?_map, Option.map_eq_some_iff] at hu
    obtain ⟨y, hy, rfl⟩ := hu
    rw [List.getElem?_take] at hy
    split at hy
    · have hjx := List.getElem?_eq_some_iff.mp hy
      obtain ⟨b, o, s⟩ := a
      obtain ⟨h1, rfl, h2⟩ := ha.cell b o s j rfl (by have := ha.len; obtain ⟨h, _⟩ := hjx; omega)
      have e : (⟨b, o, none⟩ : Addr).add j = ⟨b, o + j, none⟩ := by unfold Addr.add; split <;> simp_all
      rw [e, World.cell?_alloc_lt w _ _ h2, h1]
      simp [List.getD_eq_getElem?_getD, hy]
    · cases hy
  have HO : Hid (∀ u ∈ (xs.take k).map (Value.int .u8), u.oneCell' = true) := by
    unfold Hid; intro u hu
    rw [List.mem_map] at hu; obtain ⟨y, _, rfl⟩ := hu; rfl
  clear ha
  generalize (xs.take k).map (Value.int .u8) = ys at *
  have hown := World.ownsRow_made (size := 1) (e := 5) (base := w.heap.size) w #[] 0 (Nat.le_refl _) (by unfold maxLen; omega) (by simp)
  rcases hk with ⟨hlt, rfl⟩ | ⟨hge, rfl⟩
  all_goals
    go_enter Try.func25, Try.ntmps25
    go_wp2_with (at_builtin; refine wpList_append_own _ rfl (.tmp 5) (.tmp 11) _ rfl w.heap.size 5 i0 _ 1 1 Try.underlying29 hi0 hz0 hz1 hz2 rfl (by omega) _ 0 [] rfl hown a _ c _ rfl HL.out HC.out HO.out (by unfold maxLen; omega) (by omega) (by simp) ?_)
    intro v' w1 hown1 hg hn1
    have hb : Below w.heap.size w w1 := ((Below.refl _ _).alloc (Nat.le_refl _) _).grown hg (by simp) (by simp [Value.ownBlock])
    try simp only [Nat.zero_add, List.nil_append] at hown1
    have hs := own_someF hown1 (fun e => hn1 e)
    obtain ⟨a', c', hv⟩ := hs
    subst hv
    have HW := Lib.hid hown1; clear hown1 hown hn1
    go_wp2
    go_ret
    exact ⟨_, rfl, HW.out, ⟨_, _, rfl⟩, hb⟩
theorem few_none (m : Int) (w : World) (hm : 0 ≤ m) (hm2 : m ≤ 9223372036854775807) :
    Calls Try.prog 25 #[.slice none 0 0, .int .i64 m] w (FewPost w 0 []) := by
  obtain ⟨i0, hi0, hz0, hz1, hz2⟩ := info_parts info_u8
  have hown := World.ownsRow_made (size := 1) (e := 5) (base := w.heap.size) w #[] 0 (Nat.le_refl _) (by unfold maxLen; omega) (by simp)
  have hmm : ¬ m < 0 := by omega
  go_enter Try.func25, Try.ntmps25
  go_wp2_with (at_builtin; refine wpList_append_own_none rfl (.tmp 5) (.tmp 11) _ rfl w.heap.size 5 i0 1 Try.underlying29 hi0 _ 0 [] rfl hown rfl ?_)
  go_wp2
  go_ret
  exact ⟨_, rfl, hown, ⟨_, _, rfl⟩, (Below.refl _ _).alloc (Nat.le_refl _) _⟩
theorem few_c (A : Option Addr) (n c : Nat) (m : Int) (xs : List Int) (w : World) (ha : Bs w A n xs) (hn : n ≤ 140737488355328) (hnc : n ≤ c) (hc0 : A = none → c = 0) (hm : 0 ≤ m) (hm2 : m ≤ 9223372036854775807) :
    Calls Try.prog 25 #[.slice A n c, .int .i64 m] w (FewPost w (min n m.toNat) ((xs.take (min n m.toNat)).map (Value.int .u8))) := by
  cases A with
  | none =>
    have h0 := ha.none_ rfl; have h1 := hc0 rfl
    subst h0; subst h1
    have : xs = [] := List.eq_nil_of_length_eq_zero ha.len
    subst this
    simpa using few_none m w hm hm2
  | some a =>
    refine few_some a n c m _ xs w ha hn hnc ?_ hm2
    by_cases h : m < (n : Int)
    · exact .inl ⟨h, by omega⟩
    · exact .inr ⟨h, by omega⟩
theorem cells_u8' : Try.prog.cellsOf 5 = 1 := by kernel_rfl
theorem bytes_u8' : Try.prog.bytesOf 5 = 1 := by kernel_rfl
theorem byte_wf' {x : Int} (hw : (Lit.int .u8 x).wf = true) : 0 ≤ x ∧ x ≤ 255 := by
  simp [Lit.wf, IntKind.min, IntKind.max, IntKind.signed, IntKind.bits] at hw; omega
theorem viewed_bytes8 {w : World} {A : Option Addr} {n c : Nat} (h : Vw.Viewed Try.prog w 29 [.slice A n c]) :
    ∃ xs, Bs w A n xs ∧ n ≤ c ∧ c ≤ 140737488351232 ∧ (A = none → c = 0) := by
  rcases Vw.viewed_slice Try.underlying29 h with e | ⟨a, len, cap, e, h1, h2, h3, h4⟩
  · injection e with e _; injection e with e1 e2 e3; subst e1; subst e2; subst e3
    exact ⟨[], ⟨rfl, by simp, fun _ => rfl, fun _ _ _ _ e => by cases e⟩, Nat.le_refl _, by omega, fun _ => rfl⟩
  · injection e with e _; injection e with e1 e2 e3; subst e1; subst e2; subst e3
    obtain ⟨xs, g1, g2, g3, g4⟩ := Vw.viewed_ints Try.underlying5 cells_u8' h4
    rw [bytes_u8', Nat.mul_one] at h3
    have h3 : c ≤ 140737488351232 := h3
    refine ⟨xs.take n, ⟨by simp [g1, h1], fun x hx => byte_wf' (g2 x (List.mem_of_mem_take hx)), by simp, ?_⟩, h1, h3, by simp⟩
    rintro b o s i hA hi
    injection hA with hA; subst hA
    have g5 := g4 i (by omega)
    refine ⟨by rw [g5]; simp [List.getD_eq_getElem?_getD, hi], g3 (by omega), World.block_lt_of_cell? w ⟨b, o + i, none⟩ g5⟩
end Go.Proofs.Ytjmpnkhgligdlaa
