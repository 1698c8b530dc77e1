/- The contract of All. -/
import Derived.Test.YtmbaoaoglhonfaaTrSame
import Derived.WalkSpells
namespace Go.Proofs.Ytmbaoaoglhonfaa
open Go.RowKit On
def NewRow (w : World) (e : TypeId) (size n : Nat) (xs : List Value) (en : Ending) (w' : World) : Prop :=
  ∃ A c, en = .returned (.slice A n c) ∧ w'.ownsRow w.heap.size e size (.slice A n c) n xs ∧ Below w.heap.size w w'
theorem Src.own {w : World} {base : Nat} {e : TypeId} {size n c : Nat} {A : Option Addr} {xs : List Value} (h : w.ownsRow base e size (.slice A n c) n xs) (h1 : ∀ u ∈ xs, u.oneCell' = true) : Src w A n size xs := by
  refine ⟨h.1, ?_, ?_, h1⟩
  · rintro rfl
    obtain ⟨A, c, hv, ⟨_, h0, _⟩ | ⟨g, cur, hA, _⟩⟩ := own_slice h
    · exact h0
    · subst hA; simp at hv
  · rintro ad rfl j u hu
    obtain ⟨A, c, hv, ⟨hA, _⟩ | ⟨g, cur, hA, _⟩⟩ := own_slice h
    · subst hA; simp at hv
    · subst hA; simp only [Value.slice.injEq, Option.some.injEq] at hv
      rw [hv.1]; exact h.cells (g := g) (by rw [hv.1]; rfl) j u hu
theorem ev_one (l : List Ev) : ∀ u ∈ l.flatMap Ev.cells, u.oneCell' = true := by
  intro u hu
  rw [List.mem_flatMap] at hu
  obtain ⟨e, _, he⟩ := hu
  simp [Ev.cells] at he
  rcases he with rfl | rfl | rfl | rfl <;> rfl
set_option maxHeartbeats 400000 in
theorem evClone_c (w : World) (v : Value) (l : List Ev) (h : w.ownsRow 0 28 4 v l.length (l.flatMap Ev.cells)) (hl : l.length ≤ 200000) :
    Calls Try.prog 36 #[v] w (NewRow w 28 4 l.length (l.flatMap Ev.cells)) := by
  obtain ⟨i0, hi0, hz0, hz1, hz2⟩ := info_parts info_ev
  obtain ⟨A, c, rfl, ⟨rfl, h0, rfl⟩ | ⟨g, cur, rfl, r⟩⟩ := own_slice h
  · have : l = [] := List.eq_nil_of_length_eq_zero h0
    subst this
    have hnil := fun w : World => Lib.run_eql_slice_nil (P := Try.prog) w 33 28 none 0 0 0 0 Try.underlying33
    go_enter Try.func36, Try.ntmps36
    go_wp2
    go_ret
    exact ⟨none, 0, rfl, World.ownsRow_nil _ _ _ _, Below.refl _ _⟩
  · have hnil := fun w : World => Lib.run_eql_slice_nil (P := Try.prog) w 33 28 (some ⟨g, 0, none⟩) l.length c 0 0 Try.underlying33
    have hown := World.ownsRow_made (size := 4) (e := 28) (base := w.heap.size) w #[] 0 (Nat.le_refl _) (by unfold maxLen; omega) (by simp)
    have HS : Hid (Src (w.alloc (.cells #[] 28)) (some ⟨g, 0, none⟩) l.length 4 (l.flatMap Ev.cells)) := Src.own (h.alloc _) (ev_one l)
    have HL := Lib.hid hl; clear hl
    clear h r
    generalize l.flatMap Ev.cells = fl at *
    generalize l.length = n at *
    go_enter Try.func36, Try.ntmps36
    go_wp2_with (at_builtin; refine wpList_append_at _ rfl (.tmp 5) (.tmp 6) _ rfl w.heap.size 28 i0 _ 4 32 Try.underlying33 hi0 hz0 hz1 hz2 rfl (by omega) _ 0 [] rfl hown (some ⟨g, 0, none⟩) n c fl rfl HS.out (by simp) ?c3 ?c4 (by simp) ?_)
    case c3 => have := HL.out; unfold maxLen; omega
    case c4 => have := HL.out; omega
    intro A' c' w1 hown1 hg hw
    have hb : Below w.heap.size w w1 := ((Below.refl _ _).alloc (Nat.le_refl _) _).grown hg (by simp) (by simp [Value.ownBlock])
    have HO := Lib.hid hown1; clear hown1 hw hown hg
    try simp only [Nat.zero_add]
    go_wp2
    go_ret
    have := HO.out
    try simp only [Nat.zero_add, List.nil_append] at this
    exact ⟨A', c', rfl, this, hb⟩
theorem trAll_c (w : World) (p : Nat) (g : Option Nat) (l : List Ev) (h : Tr w p g l) (hl : l.length ≤ 200000) :
    Calls Try.prog 17 #[.pointer (some ⟨p, 0, none⟩)] w (NewRow w 28 4 l.length (l.flatMap Ev.cells)) := by
  obtain ⟨v, h1, h2, h3⟩ := h
  obtain ⟨A, c, rfl, _⟩ := own_slice h2
  have hc := h1.cell 0
  simp at hc
  have H2 := Lib.hid h2
  have HL := Lib.hid hl
  clear h1 h2 h3 hl
  go_enter Try.func17, Try.ntmps17
  go_wp2_with fail
  refine (evClone_c w _ l H2.out HL.out).mono ?_
  rintro e w' ⟨A', c', rfl, ho, hb⟩
  have HO := Lib.hid ho; clear ho
  go_wp2_with fail
  go_ret
  exact ⟨A', c', rfl, HO.out, hb⟩
end Go.Proofs.Ytmbaoaoglhonfaa
