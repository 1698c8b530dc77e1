/- thumb.Decode, Size: of any halfwords. -/
import Derived.Test.YtpcjkllhieiiiaaThM
import Derived.Test.YtpcjkllhieiiiaaTh5
namespace Go.Proofs.Ytpcjkllhieiiiaa
open Go.RowKit On Th
/-- halfwords that a slice holds -/
def Hw (w : World) (s : Value) (hs : List Int) : Prop :=
  ∃ A c, s = .slice A hs.length c ∧ ∀ (k : Nat) x, hs[k]? = some x → 0 ≤ x ∧ x < 65536 ∧ ∃ g o, A = some ⟨g, o, none⟩ ∧ w.cell? ⟨g, o + k, none⟩ = some (.int .u16 x)
theorem decode_c {s : Value} {hs : List Int} {w : World} (h : Hw w s hs) : Calls Try.prog 17 #[s] w (DecAt (decS hs) w) := by
  obtain ⟨A, c, rfl, hk⟩ := h
  cases hs with
  | nil => exact decode_nil A c w
  | cons a t =>
    obtain ⟨ha, ha', g, o, rfl, ca⟩ := hk 0 a rfl
    simp at ca
    unfold decS
    dsimp only
    by_cases h1 : a / 2048 = 30
    · rw [if_pos h1]
      cases t with
      | nil => exact decode_short g o c a w ca h1
      | cons b t =>
        obtain ⟨hb, hb', g', o', e, cb⟩ := hk 1 b rfl
        obtain ⟨rfl, rfl⟩ : g = g' ∧ o = o' := by simpa using e
        dsimp only
        by_cases h2 : bits .and .u16 b 53248 = 53248
        · rw [if_pos h2]
          have := decode_bl g o (a :: b :: t).length c a b w (by simp) ca cb h1 h2
          rw [farE_eq a b ha ha' hb hb'] at this
          exact this
        · rw [if_neg h2]; exact decode_odd g o _ c a b w (by simp) ca cb h1 h2
    · rw [if_neg h1]
      by_cases h2 : a / 256 = 70
      · rw [if_pos h2]; exact decode_mov g o _ c a w (by simp) ca h1 h2 ha ha'
      · rw [if_neg h2]
        cases hr : rowOf (opS a) with
        | none => exact decode_no g o _ c a 0 0 [] w (by simp) ca h1 h2 ha ha' (fun w => (find_c (opS a) w).mono fun e w' h => by unfold FindAt at h; rw [hr] at h; exact h)
        | some p =>
          obtain ⟨b, l⟩ := p
          obtain ⟨k1, k2⟩ := rowOf_ok hr
          exact decode_row g o _ c a (opS a) b l w (by simp) ca h1 h2 ha ha' (fun w => (find_c (opS a) w).mono fun e w' h => by unfold FindAt at h; rw [hr] at h; exact h) k1 k2
set_option maxHeartbeats 1000000 in
theorem size_c (op d n m imm cond : Int) (w : World) : Calls Try.prog 19 #[.agg #[.int .i64 op, .int .i64 d, .int .i64 n, .int .i64 m, .int .i64 imm, .int .i64 cond]] w fun e w' => e = .returned (.int .i64 (if op = 43 then 4 else 2)) ∧ Below w.heap.size w w' := by
  go_enter Try.func19, Try.ntmps19
  by_cases h : op = 43
  · subst h
    go_wp2_with fail
    go_ret
    exact ⟨rfl, (Below.refl _ _).alloc (Nat.le_refl _) _⟩
  · have h' : (op == 43) = false := by simpa using h
    rw [if_neg h]
    clear h
    go_wp2_with fail
    go_ret
    exact ⟨rfl, (Below.refl _ _).alloc (Nat.le_refl _) _⟩
end Go.Proofs.Ytpcjkllhieiiiaa
