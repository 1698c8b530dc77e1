/- law17's ints, known. -/
import Derived.Test.YtilifniflpbbkaaDoorIr
import Derived.Deep.DeepCutAuto
namespace Go.Proofs.YtilifniflpbbkaaDoor
open Go.RowKit On
set_option maxHeartbeats 2000000 in
theorem ints_c {s t : Value} {xs ys : List Int} {w : World} (hx : Ints .i64 w s xs) (hy : Ints .i64 w t ys) (hl : xs.length < 1000) : Calls Tryd.prog 11 #[s, t] w fun e w' => e = .returned (.bool (decide (xs = ys))) ∧ Below w.heap.size w w' := by
  obtain ⟨A, ca, rfl, _, ka⟩ := hx
  obtain ⟨B, cb, rfl, _, kb⟩ := hy
  have KA := Lib.hid ka
  have KB := Lib.hid kb
  clear ka kb
  obtain ⟨v, hv⟩ : ∃ v, decide (xs = ys) = v := ⟨_, rfl⟩
  rw [hv]
  by_cases hlen : xs.length = ys.length
  · obtain ⟨n, hn⟩ : ∃ n, ys.length = n := ⟨_, rfl⟩
    rw [hn] at hlen
    rw [hlen] at hl
    rw [hlen, hn]
    have HV := Lib.hid hv
    have HN := Lib.hid hn
    have HLEN := Lib.hid hlen
    clear hv hn hlen
    go_enter Tryd.func11, Tryd.ntmps11
    go_wp2_with fail
    go_loopw [5] (fun j wr => ∃ q : Nat, q ≤ n ∧ j = .int .i64 q ∧ xs.take q = ys.take q ∧ Below w.heap.size w wr) (fun j _ => n - (intOf j).toNat)
    case atStart => exact ⟨0, Nat.zero_le _, rfl, rfl, Below.refl _ _⟩
    case round =>
      obtain ⟨q, hq, rfl, ht, hb⟩ := hrel
      have HB := Lib.hid hb
      have HT := Lib.hid ht
      clear hb ht
      by_cases hlt : q < n
      · have hqx : q < xs.length := by rw [HLEN.out]; exact hlt
        have hqy : q < ys.length := by rw [HN.out]; exact hlt
        obtain ⟨x, ex⟩ : ∃ x, xs[q]? = some x := ⟨xs[q], by simp [hqx]⟩
        obtain ⟨y, ey⟩ : ∃ y, ys[q]? = some y := ⟨ys[q], by simp [hqy]⟩
        obtain ⟨g, o, rfl, c1⟩ := KA.out q x ex
        obtain ⟨g', o', rfl, c2⟩ := KB.out q y ey
        have d1 : wr.cell? ⟨g, o + q, none⟩ = some (.int .i64 x) := by rw [HB.out.cell (World.block_lt_of_cell? _ _ c1)]; exact c1
        have d2 : wr.cell? ⟨g', o' + q, none⟩ = some (.int .i64 y) := by rw [HB.out.cell (World.block_lt_of_cell? _ _ c2)]; exact c2
        have hk : Hid ((x == y) = true → xs.take (q + 1) = ys.take (q + 1)) := fun h => by
          rw [List.take_add_one, List.take_add_one, HT.out, ex, ey, show x = y by simpa using h]
        have hk' : Hid ((x == y) = false → v = false) := fun h => by
          rw [← HV.out]
          simp only [decide_eq_false_iff_not]
          rintro rfl
          rw [ex] at ey
          simp at ey h
          exact h ey
        have HLT := Lib.hid hlt
        clear c1 c2 ex ey hqx hqy
        cases hxy : (x == y)
        · have hxy' : (x != y) = true := by simp [bne, hxy]
          have hvf := Lib.hid (hk'.out hxy)
          clear hk hk'
          go_wp2_with fail
          go_quiet (fail)
          go_wp2_with fail
          go_ret
          exact ⟨by rw [hvf.out]; rfl, belowN HB.out _⟩
        · have hxy' : (x != y) = false := by simp [bne, hxy]
          have hvt := Lib.hid (hk.out hxy)
          clear hk hk'
          go_wp2_with fail
          go_quiet (fail)
          go_wp2_with fail
          go_roundw
          case rel => exact ⟨q + 1, by have := HLT.out; omega, by go_num, hvt.out, belowN HB.out _⟩
          case measure => have := HLT.out; simp [intOf]; omega
      · have hqe : q = n := by omega
        subst hqe
        have hvt : v = true := by
          rw [← HV.out]
          simp only [decide_eq_true_eq]
          have e := HT.out
          rw [List.take_of_length_le (by rw [HLEN.out]; exact Nat.le_refl _), List.take_of_length_le (by rw [HN.out]; exact Nat.le_refl _)] at e
          exact e
        subst hvt
        go_wp2_with fail
        go_ret
        exact ⟨rfl, HB.out⟩
  · have hvf : v = false := by
      rw [← hv]
      simp only [decide_eq_false_iff_not]
      rintro rfl
      exact hlen rfl
    subst hvf
    have hne : ((xs.length : Int) == (ys.length : Int)) = false := by simp; omega
    have hne' : ((xs.length : Int) != (ys.length : Int)) = true := by simp [bne, hne]
    clear hv hlen
    go_enter Tryd.func11, Tryd.ntmps11
    go_wp2_with fail
    go_ret
    exact ⟨rfl, Below.refl _ _⟩
set_option maxHeartbeats 2000000 in
theorem known_c (w : World) : Calls Tryd.prog 10 #[] w fun e w' => e = .returned (.bool true) ∧ Below w.heap.size w w' := by
  have n1 := Lib.hid (fun w => next_c (.branch 0 5) 2 (by decide) (by decide) w)
  have u1 := Lib.hid (fun w => pure_c .tick w)
  have d1 := Lib.hid (fun w => def_c (.const 4 0) w)
  have hn : Nd.next 2 (.branch 0 5) = [3, 5] := by decide
  rw [hn] at n1
  go_enter Tryd.func10, Tryd.ntmps10
  go_wp2_with fail
  refine (n1.out _).mono ?_
  intro e w1 h
  obtain ⟨s, rfl, hi, hb⟩ := h
  have HI := Lib.hid hi
  have HB := Lib.hid hb
  clear hi hb
  go_wp2_with fail
  refine (ints_c (HI.out.keep ((Below.refl _ _).alloc (Nat.le_refl _) _)) (Ints.two w1 3 5 _ rfl) (by simp)).mono ?_
  rintro e w2 ⟨rfl, hb⟩
  have HB2 := Lib.hid ((HB.out.alloc HB.out.size _).trans (hb.mono (HB.out.alloc HB.out.size _).size))
  clear hb HI
  go_wp2_with fail
  refine (u1.out _).mono ?_
  rintro e w3 ⟨rfl, rfl⟩
  go_wp2_with fail
  refine (d1.out _).mono ?_
  rintro e w3 ⟨rfl, hb⟩
  have HB3 := Lib.hid (HB2.out.trans (hb.mono HB2.out.size))
  clear hb
  go_wp2_with fail
  go_ret
  exact ⟨rfl, HB3.out⟩
end Go.Proofs.YtilifniflpbbkaaDoor
