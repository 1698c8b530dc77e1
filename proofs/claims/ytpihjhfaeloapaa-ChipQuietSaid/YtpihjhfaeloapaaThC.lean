/- thumb's part, rightPart. -/
import Derived.Test.YtpihjhfaeloapaaThA
import Derived.Test.YtpihjhfaeloapaaTh2
import Derived.Lib.Hide
namespace Go.Proofs.Ytpihjhfaeloapaa
open Go.RowKit On Th
theorem retB {a b : Bool} (h : a = b) : Ending.returned (.bool a) = .returned (.bool b) := by rw [h]
theorem part_c (p : Nat) (k : Int) (w : World) : Calls Try.prog 87 #[.pointer (some ⟨p, 0, none⟩), .int .i64 k] w fun e w' => e = .returned (.pointer (some ⟨p, po k, none⟩)) ∧ w = w' := by
  unfold po
  by_cases h0 : k = 0
  · subst h0; go_enter Try.func87, Try.ntmps87
    go_wp2
    go_ret
    exact ⟨rfl, rfl⟩
  · by_cases h1 : k = 1
    · subst h1; go_enter Try.func87, Try.ntmps87
      go_wp2
      go_ret
      exact ⟨rfl, rfl⟩
    · by_cases h2 : k = 2
      · subst h2; go_enter Try.func87, Try.ntmps87
        go_wp2
        go_ret
        exact ⟨rfl, rfl⟩
      · by_cases h3 : k = 3
        · subst h3; go_enter Try.func87, Try.ntmps87
          go_wp2
          go_ret
          exact ⟨rfl, rfl⟩
        · rw [if_neg h0, if_neg h1, if_neg h2, if_neg h3]
          go_enter Try.func87, Try.ntmps87
          go_wp2
          go_ret
          exact ⟨rfl, rfl⟩
set_option maxHeartbeats 1000000 in
theorem rightPart_c (op b k : Int) (A : Option Addr) (l : List Sl) (i : Ins) (w : World) (hl : SlA 140 w A l) (hst : ∀ s ∈ l, s.step ≠ 0) (hlen : l.length ≤ 5) :
    Calls Try.prog 81 #[.agg #[.int .i64 op, .int .u16 b, .slice A l.length l.length], .agg i.cells, .int .i64 k] w fun e w' => e = .returned (.bool (rpS l (i.part k) k)) ∧ Below w.heap.size w w' := by
  have HL := Lib.hid hl
  have KI : Blk ((w.alloc (.cells #[.int .i64 op, .int .u16 b, .slice A l.length l.length] 123)).alloc (.cells i.cells 36)) (w.heap.size + 1) 36 i.cells := Blk.new' _ _ _ _ (by simp)
  have hv : ((w.alloc (.cells #[.int .i64 op, .int .u16 b, .slice A l.length l.length] 123)).alloc (.cells i.cells 36)).cell? ⟨w.heap.size + 1, po k, none⟩ = some (.int .i64 (i.part k)) := (KI.cell _).trans (part_cell i k)
  have HB : Hid (Below w.heap.size w ((w.alloc (.cells #[.int .i64 op, .int .u16 b, .slice A l.length l.length] 123)).alloc (.cells i.cells 36))) := ((Below.refl _ _).alloc (Nat.le_refl _) _).alloc (by simp) _
  obtain ⟨v, hvq⟩ : ∃ v, i.part k = v := ⟨_, rfl⟩
  rw [hvq] at hv ⊢
  clear hl KI hvq
  go_enter Try.func81, Try.ntmps81
  go_wp2_with fail
  refine (part_c _ _ _).mono ?_
  rintro e w' ⟨rfl, rfl⟩
  go_wp2_with fail
  go_loopw [17] (fun j wr => ∃ q : Nat, q ≤ l.length ∧ j = .int .i64 q ∧ rpS l v k = rpS (l.drop q) v k ∧ Below w.heap.size w wr) (fun j _ => l.length - (intOf j).toNat)
  case atStart => exact ⟨0, Nat.zero_le _, rfl, rfl, HB.out⟩
  case round =>
    obtain ⟨q, hq, rfl, hrp, hb⟩ := hrel
    have HBR := Lib.hid hb
    have HLR := Lib.hid (HL.out.below hb)
    clear hb HB
    by_cases hlt : q < l.length
    · obtain ⟨s, hs⟩ : ∃ s, l[q]? = some s := ⟨l[q], by simp [hlt]⟩
      have hstep := hst s (List.mem_of_getElem? hs)
      have hd : l.drop q = s :: l.drop (q + 1) := by
        obtain ⟨h1, h2⟩ := List.getElem?_eq_some_iff.mp hs
        rw [List.drop_eq_getElem_cons h1, h2]
      rw [hd, rpS] at hrp
      obtain ⟨g, hA, hg, c0, c1, c2, c3, c4, c5⟩ := HLR.out.cell hs
      subst hA
      have HBA : Hid (Below w.heap.size w (wr.alloc (.cells #[.int .i64 s.part, .int .i64 s.shift, .int .i64 s.bits, .int .i64 s.least, .int .i64 s.most, .int .i64 s.step] 140))) := HBR.out.alloc HBR.out.size _
      clear hd hs
      by_cases hp : s.part = k
      · rw [if_pos hp] at hrp
        subst hp
        have HRP := Lib.hid hrp
        clear hrp
        by_cases h1 : s.least ≤ v
        · by_cases h2 : v ≤ s.most
          · by_cases h3 : v.tmod s.step = 0
            all_goals
              go_wp2_with fail
              go_ret
              exact ⟨retB (by rw [HRP.out]; simp [h1, h2, h3]), HBA.out⟩
          · go_wp2_with fail
            go_ret
            exact ⟨retB (by rw [HRP.out]; simp; omega), HBA.out⟩
        · go_wp2_with fail
          go_ret
          exact ⟨retB (by rw [HRP.out]; simp; omega), HBA.out⟩
      · rw [if_neg hp] at hrp
        have HRP := Lib.hid hrp
        clear hrp
        go_wp2_with fail
        go_roundw
        case rel => exact ⟨q + 1, by omega, by go_num, HRP.out, HBA.out⟩
        case measure => simp [intOf]; omega
    · have hqe : q = l.length := by omega
      subst hqe
      rw [List.drop_length, rpS] at hrp
      have HRP := Lib.hid hrp
      clear hrp
      by_cases h0 : v = 0
      all_goals
        go_wp2_with fail
        go_ret
        exact ⟨retB (by rw [HRP.out]; try simp [h0]), HBR.out⟩
end Go.Proofs.Ytpihjhfaeloapaa
